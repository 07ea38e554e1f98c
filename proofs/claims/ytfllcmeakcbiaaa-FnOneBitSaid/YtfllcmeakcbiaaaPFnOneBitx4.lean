-- Written for this claim by a program of this session (wip/mkprint.py: the print, turned at a few places). Not trusted: Lean checks it.
import Derived.Test.YtfllcmeakcbiaaaPFnOneBitx0
import Derived.Test.YtfllcmeakcbiaaaPFnOneBitx3
namespace Go.Proofs.Ytfllcmeakcbiaaa.PFnOneBit
open Go.RowKit Go.Proofs.YtfllcmeakcbiaaaW.PrintWords Go.Proofs.YtfllcmeakcbiaaaW.PrintLast Go.Proofs.YtfllcmeakcbiaaaW.PrintMore
attribute [local go_sem] max2_int min2_int max_two min_two max_three min_three max_four min_four   -- for this text's walks alone
set_option linter.unusedVariables false
set_option linter.unusedSimpArgs false

/-! ### spec_FalseHead: function 50 -/
def spec_FalseHead.f (k : Nat) (a0 : Int) (a1 : Int) (a2 : Int) (a3 : Int) : Option (List Int) := (spec_l03Put.f k a0 4).bind fun aa => ((spec_l03Put.f k a1 4).bind fun ab => ((spec_l01Join.f k aa ab).bind fun ac => ((spec_l01Join.f k ac (([0, (a2) % 256] : List Int))).bind fun ad => ((spec_l03Put.f k a3 2).bind fun ae => ((spec_l01Join.f k ad ae).bind fun af => (some af))))))
theorem spec_FalseHead.mono : ∀ a0 a1 a2 a3 k, LeO (spec_FalseHead.f k a0 a1 a2 a3) (spec_FalseHead.f (k + 1) a0 a1 a2 a3) := by
 intro a0 a1 a2 a3 k
 unfold spec_FalseHead.f
 repeat' first
     | (with_reducible exact spec_l01Join.mono _ _ _)
     | (with_reducible exact spec_l03Put.mono _ _ _)
     | (with_reducible exact LeO.refl _)
     | (with_reducible exact LeO.none _)
     | (with_reducible refine LeO.ite ?_ ?_)
     | (with_reducible refine LeO.bind ?_ (fun _ => ?_))
     | exact spec_l01Join.mono _ _ _
     | exact spec_l03Put.mono _ _ _
     | exact LeO.none _
     | refine LeO.ite ?_ ?_
     | refine LeO.bind ?_ (fun _ => ?_)
set_option maxHeartbeats 60000000 in
set_option maxRecDepth 100000 in
theorem spec_FalseHead.calls (k : Nat) (a0 : Int) (a1 : Int) (a2 : Int) (a3 : Int) (r : List Int) (w : World) (h : spec_FalseHead.f k a0 a1 a2 a3 = some r) :
 Calls Try.prog 50 #[.int .i64 a0, .int .i64 a1, .int .i64 a2, .int .i64 a3] w fun e w' => ∃ v0_ : Value, e = .returned (v0_) ∧ Kd.R (Kd.int .u8) 5 w' w.heap.size (fun _ => True) v0_ r ∧ Below w.heap.size w w' := by
 have HB := Aside0.mk (Below.refl w.heap.size w)
 have H : ((spec_l03Put.f k a0 4).bind fun an => ((spec_l03Put.f k a1 4).bind fun al => ((spec_l01Join.f k an al).bind fun ak => ((spec_l01Join.f k ak (([0, (a2) % 256] : List Int))).bind fun ag => ((spec_l03Put.f k a3 2).bind fun ad => ((spec_l01Join.f k ag ad).bind fun ae => (some ae))))))) = some r := h
 clear h
 replace H := Option.bind_eq_some_iff.mp H
 obtain ⟨an, A50, H⟩ := H
 replace H : ((spec_l03Put.f k a1 4).bind fun al => ((spec_l01Join.f k an al).bind fun ak => ((spec_l01Join.f k ak (([0, (a2) % 256] : List Int))).bind fun ag => ((spec_l03Put.f k a3 2).bind fun ad => ((spec_l01Join.f k ag ad).bind fun ae => (some ae)))))) = some r := H
 have A5 := Aside0.mk A50
 clear A50
 replace H := Option.bind_eq_some_iff.mp H
 obtain ⟨al, A60, H⟩ := H
 replace H : ((spec_l01Join.f k an al).bind fun ak => ((spec_l01Join.f k ak (([0, (a2) % 256] : List Int))).bind fun ag => ((spec_l03Put.f k a3 2).bind fun ad => ((spec_l01Join.f k ag ad).bind fun ae => (some ae))))) = some r := H
 have A6 := Aside0.mk A60
 clear A60
 replace H := Option.bind_eq_some_iff.mp H
 obtain ⟨ak, A70, H⟩ := H
 replace H : ((spec_l01Join.f k ak (([0, (a2) % 256] : List Int))).bind fun ag => ((spec_l03Put.f k a3 2).bind fun ad => ((spec_l01Join.f k ag ad).bind fun ae => (some ae)))) = some r := H
 have A7 := Aside0.mk A70
 clear A70
 obtain ⟨ap, ao⟩ : ∃ y_ : List Int, y_ = (([0, (a2) % 256] : List Int)) := ⟨_, rfl⟩
 replace H : ((spec_l01Join.f k ak ap).bind fun ag => ((spec_l03Put.f k a3 2).bind fun ad => ((spec_l01Join.f k ag ad).bind fun ae => (some ae)))) = some r := by first | (rw [ao]; with_reducible exact H) | (have H2_ := (Option.bind_some _ _).symm.trans H; rw [ao]; with_reducible exact H2_) | (have H2_ := (Option.bind_some _ _).symm.trans H; with_reducible exact H2_) | with_reducible exact H | (rw [ao]; exact H) | exact H
 have Ny161 := Aside0.mk ao
 clear ao
 replace H := Option.bind_eq_some_iff.mp H
 obtain ⟨ag, A80, H⟩ := H
 replace H : ((spec_l03Put.f k a3 2).bind fun ad => ((spec_l01Join.f k ag ad).bind fun ae => (some ae))) = some r := H
 have A8 := Aside0.mk A80
 clear A80
 replace H := Option.bind_eq_some_iff.mp H
 obtain ⟨ad, A90, H⟩ := H
 replace H : ((spec_l01Join.f k ag ad).bind fun ae => (some ae)) = some r := H
 have A9 := Aside0.mk A90
 clear A90
 replace H := Option.bind_eq_some_iff.mp H
 obtain ⟨ae, A100, H⟩ := H
 replace H : (some ae) = some r := H
 have A10 := Aside0.mk A100
 clear A100
 obtain rfl := Option.some.inj H
 go_enter Try.func50, Try.ntmps50
 go_wp2_with (first | ((with_reducible refine gate_callee (f := 43) rfl ?_); refine goesL_ (some 11) rfl rfl Try.func43 (by kernel_rfl) rfl #[.int .i64 a0, .int .i64 4] rfl wT ?_; (with_reducible refine (spec_l03Put.calls k a0 4 an _ A5.out).mono ?_); rintro e aN ⟨aU, rfl, aa, hb⟩; refine ⟨_, rfl, ?_⟩; have ab := Aside0.mk (Kd.R_lower aa (below_size wB)); replace HB := Aside0.mk (below_step wB hb); (try clear hb); (try clear hb2); (try clear hk); (try clear hi); (try clear aa)) | ((with_reducible refine gate_callee (f := 43) rfl ?_); refine goesL_ (some 13) rfl rfl Try.func43 (by kernel_rfl) rfl #[.int .i64 a1, .int .i64 4] rfl wT ?_; (with_reducible refine (spec_l03Put.calls k a1 4 al _ A6.out).mono ?_); rintro e aO ⟨aV, rfl, aa, hb⟩; refine ⟨_, rfl, ?_⟩; have ah := Aside0.mk (Kd.R_lower (Kd.R_new' aa (Kd.R_lt (Rh ab))) (below_size wB)); replace ab := Aside0.mk (Kd.R_elder' (Rh ab) (Kd.R_base aa) hb); replace HB := Aside0.mk (below_step wB hb); (try clear hb); (try clear hb2); (try clear hk); (try clear hi); (try clear aa); obtain ⟨aq, ar, au⟩ := Kd.R_slice ab.out; subst au; obtain ⟨av, aw, ax⟩ := Kd.R_slice ah.out; subst ax) | ((with_reducible refine gate_callee (f := 42) rfl ?_); refine goesL_ (some 14) rfl rfl Try.func42 (by kernel_rfl) rfl #[.slice aq an.length ar, .slice av al.length aw] rfl wT ?_; (with_reducible refine (spec_l01Join.calls k _ _ an _ _ al ak _ ?side1 ?side2 ?side3 ?side4 A7.out).mono ?_); (case side1 => exact Ch ab); (case side2 => exact (Kd.R_reads' ab.out).2.1); (case side3 => exact Ch ah); (case side4 => exact (Kd.R_reads' ah.out).2.1); rintro e aP ⟨aL, rfl, aa, hb⟩; refine ⟨_, rfl, ?_⟩; have ac := Aside0.mk (Kd.R_lower (Kd.R_new' (Kd.R_new' aa (Kd.R_lt (Rh ab))) (Kd.R_lt (Rh ah))) (below_size wB)); replace ab := Aside0.mk (Kd.R_elder' (Rh ab) (Kd.R_base aa) hb); replace ah := Aside0.mk (Kd.R_elder' (Rh ah) (Kd.R_base aa) hb); replace HB := Aside0.mk (below_step wB hb); (try clear hb); (try clear hb2); (try clear hk); (try clear hi); (try clear aa)) | ((with_reducible refine gate_dst (N := 18) rfl ?_); refine Kd.R_lit (Kd.int .u8) _ 5 ?hg (N := 18) ?hd (xs := ([0, (a2) % 256] : List Int)) (inner := [.int .u8 0, .int .u8 ((a2) % 256)]) (ok := fun _ => True) (okp := fun _ => True) ?hr ?hp (fun _ hk => hk) trivial (Below.refl _ _) (Nat.le_refl _) (by simp) ?_; (case hd => rfl); (case hg => rfl); (case hr => first | (go_simp; done) | (go_simp; rfl)); (case hp => exact (Reps.one (show Kd.M (Kd.int .u8) _ _ _ 0 [.int .u8 0] from rfl) (Reps.one (show Kd.M (Kd.int .u8) _ _ _ ((a2) % 256) [.int .u8 ((a2) % 256)] from rfl) (Reps.none _ _)))); intro aM aQ aj hb hg_ hnew_; clear hg_ hnew_; (first | rw [← Ny161.out] at aj | (simp only [Int.reduceToNat] at aj; rw [← Ny161.out] at aj)); have ai := Aside0.mk (Kd.R_lower (Kd.R_new' (Kd.R_new' (Kd.R_new' aj (Kd.R_lt (Rh ab))) (Kd.R_lt (Rh ah))) (Kd.R_lt (Rh ac))) (below_size wB)); replace ab := Aside0.mk (Kd.R_elder' (Rh ab) (Kd.R_base aj) hb); replace ah := Aside0.mk (Kd.R_elder' (Rh ah) (Kd.R_base aj) hb); replace ac := Aside0.mk (Kd.R_elder' (Rh ac) (Kd.R_base aj) hb); replace HB := Aside0.mk (below_step wB hb); clear hb aj; have n_ := Aside0.mk (Kd.R_mono (ok' := (fun k_ => some k_ ≠ (aM : Value).ownBlock)) ac.out (fun k_ hk => hk.2)); clear ac; have ac := n_; clear n_; have n_ := Aside0.mk (Kd.R_mono (ok' := (fun k_ => some k_ ≠ (aL : Value).ownBlock)) ai.out (fun k_ hk => hk.2)); clear ai; have ai := n_; clear n_; (try clear ab); (try clear ah); obtain ⟨ay, az, aA⟩ := Kd.R_slice ac.out; subst aA; obtain ⟨aB, aC, aD⟩ := Kd.R_slice ai.out; subst aD) | ((with_reducible refine gate_callee (f := 42) rfl ?_); refine goesL_ (some 19) rfl rfl Try.func42 (by kernel_rfl) rfl #[.slice ay ak.length az, .slice aB ap.length aC] rfl wT ?_; (with_reducible refine (spec_l01Join.calls k _ _ ak _ _ ap ag _ ?side1 ?side2 ?side3 ?side4 A8.out).mono ?_); (case side1 => exact Ch ac); (case side2 => exact (Kd.R_reads' ac.out).2.1); (case side3 => exact Ch ai); (case side4 => exact (Kd.R_reads' ai.out).2.1); rintro e aR ⟨aW, rfl, aa, hb⟩; refine ⟨_, rfl, ?_⟩; have af := Aside0.mk (Kd.R_lower (Kd.R_new' (Kd.R_new' aa (Kd.R_lt (Rh ac))) (Kd.R_lt (Rh ai))) (below_size wB)); replace ac := Aside0.mk (Kd.R_elder' (Rh ac) (Kd.R_base aa) hb); replace ai := Aside0.mk (Kd.R_elder' (Rh ai) (Kd.R_base aa) hb); replace HB := Aside0.mk (below_step wB hb); (try clear hb); (try clear hb2); (try clear hk); (try clear hi); (try clear aa); have n_ := Aside0.mk (Kd.R_mono (ok' := (fun _ => True)) af.out (fun k_ hk => trivial)); clear af; have af := n_; clear n_; (try clear ac); (try clear ai)) | ((with_reducible refine gate_callee (f := 43) rfl ?_); refine goesL_ (some 22) rfl rfl Try.func43 (by kernel_rfl) rfl #[.int .i64 a3, .int .i64 2] rfl wT ?_; (with_reducible refine (spec_l03Put.calls k a3 2 ad _ A9.out).mono ?_); rintro e aS ⟨aX, rfl, aa, hb⟩; refine ⟨_, rfl, ?_⟩; have am := Aside0.mk (Kd.R_lower (Kd.R_new' aa (Kd.R_lt (Rh af))) (below_size wB)); replace af := Aside0.mk (Kd.R_elder' (Rh af) (Kd.R_base aa) hb); replace HB := Aside0.mk (below_step wB hb); (try clear hb); (try clear hb2); (try clear hk); (try clear hi); (try clear aa); obtain ⟨aE, aF, aG⟩ := Kd.R_slice af.out; subst aG; obtain ⟨aH, aI, aJ⟩ := Kd.R_slice am.out; subst aJ) | ((with_reducible refine gate_callee (f := 42) rfl ?_); refine goesL_ (some 23) rfl rfl Try.func42 (by kernel_rfl) rfl #[.slice aE ag.length aF, .slice aH ad.length aI] rfl wT ?_; (with_reducible refine (spec_l01Join.calls k _ _ ag _ _ ad ae _ ?side1 ?side2 ?side3 ?side4 A10.out).mono ?_); (case side1 => exact Ch af); (case side2 => exact (Kd.R_reads' af.out).2.1); (case side3 => exact Ch am); (case side4 => exact (Kd.R_reads' am.out).2.1); rintro e aT ⟨aY, rfl, aa, hb⟩; refine ⟨_, rfl, ?_⟩; have aK := Aside0.mk (Kd.R_lower (Kd.R_new' (Kd.R_new' aa (Kd.R_lt (Rh af))) (Kd.R_lt (Rh am))) (below_size wB)); replace af := Aside0.mk (Kd.R_elder' (Rh af) (Kd.R_base aa) hb); replace am := Aside0.mk (Kd.R_elder' (Rh am) (Kd.R_base aa) hb); replace HB := Aside0.mk (below_step wB hb); (try clear hb); (try clear hb2); (try clear hk); (try clear hi); (try clear aa)))
 go_ret
 exact ⟨_, by first | rfl | (simp [errW_none, errW_some] <;> rfl) | (simp [*, errW_none, errW_some] <;> rfl), Kd.R_mono (Rh aK) (fun _ hk => trivial), wB⟩

/-! ### spec_l10Sum: function 24 -/
def spec_l10Sum.f (k : Nat) (l0 : List Int) (a1 : Int) (a2 : Int) (a3 : Int) : Option (Int) := (spec_FalseHead.f k a1 a2 a3 (l0.length : Int)).bind fun t173 => ((spec_l01Join.f k t173 l0).bind fun t176 => ((spec_Checksum.f k t176).bind fun t179 => (some t179)))
theorem spec_l10Sum.mono : ∀ a0 a1 a2 a3 k, LeO (spec_l10Sum.f k a0 a1 a2 a3) (spec_l10Sum.f (k + 1) a0 a1 a2 a3) := by
 intro a0 a1 a2 a3 k
 unfold spec_l10Sum.f
 repeat' first
     | (with_reducible exact spec_Checksum.mono _ _)
     | (with_reducible exact spec_FalseHead.mono _ _ _ _ _)
     | (with_reducible exact spec_l01Join.mono _ _ _)
     | (with_reducible exact LeO.refl _)
     | (with_reducible exact LeO.none _)
     | (with_reducible refine LeO.ite ?_ ?_)
     | (with_reducible refine LeO.bind ?_ (fun _ => ?_))
     | exact spec_Checksum.mono _ _
     | exact spec_FalseHead.mono _ _ _ _ _
     | exact spec_l01Join.mono _ _ _
     | exact LeO.none _
     | refine LeO.ite ?_ ?_
     | refine LeO.bind ?_ (fun _ => ?_)
set_option maxHeartbeats 60000000 in
set_option maxRecDepth 100000 in
theorem spec_l10Sum.calls (k : Nat) (A0 : Option Addr) (c0 : Nat) (l0 : List Int) (a1 : Int) (a2 : Int) (a3 : Int) (r : Int) (w : World) (hr0 : Kd.C (Kd.int .u8) w A0 l0.length l0) (hc0 : l0.length ≤ c0) (h : spec_l10Sum.f k l0 a1 a2 a3 = some r) :
 Calls Try.prog 24 #[.slice A0 l0.length c0, .int .i64 a1, .int .i64 a2, .int .i64 a3] w fun e w' => e = .returned (.int .i64 r) ∧ Below w.heap.size w w' := by
 have HR0 := Aside0.mk hr0
 have am := Aside0.mk hc0
 clear hr0 hc0
 have HB := Aside0.mk (Below.refl w.heap.size w)
 have H : ((spec_FalseHead.f k a1 a2 a3 (l0.length : Int)).bind fun ae => ((spec_l01Join.f k ae l0).bind fun ab => ((spec_Checksum.f k ab).bind fun ac => (some ac)))) = some r := h
 clear h
 replace H := Option.bind_eq_some_iff.mp H
 obtain ⟨ae, A50, H⟩ := H
 replace H : ((spec_l01Join.f k ae l0).bind fun ab => ((spec_Checksum.f k ab).bind fun ac => (some ac))) = some r := H
 have A5 := Aside0.mk A50
 clear A50
 replace H := Option.bind_eq_some_iff.mp H
 obtain ⟨ab, A60, H⟩ := H
 replace H : ((spec_Checksum.f k ab).bind fun ac => (some ac)) = some r := H
 have A6 := Aside0.mk A60
 clear A60
 replace H := Option.bind_eq_some_iff.mp H
 obtain ⟨ac, A70, H⟩ := H
 replace H : (some ac) = some r := H
 have A7 := Aside0.mk A70
 clear A70
 obtain rfl := Option.some.inj H
 go_enter Try.func24, Try.ntmps24
 go_wp2_with (first | ((with_reducible refine gate_callee (f := 50) rfl ?_); refine goesL_ (some 14) rfl rfl Try.func50 (by kernel_rfl) rfl #[.int .i64 a1, .int .i64 a2, .int .i64 a3, .int .i64 (l0.length : Int)] rfl wT ?_; (with_reducible refine (spec_FalseHead.calls k a1 a2 a3 (l0.length : Int) ae _ A5.out).mono ?_); rintro e an ⟨ap, rfl, af, hb⟩; refine ⟨_, rfl, ?_⟩; have aa := Aside0.mk (Kd.R_lower af (below_size wB)); replace HB := Aside0.mk (below_step wB hb); (try clear hb); (try clear hb2); (try clear hk); (try clear hi); (try clear af); obtain ⟨ag, ah, ai⟩ := Kd.R_slice aa.out; subst ai) | ((with_reducible refine gate_callee (f := 42) rfl ?_); refine goesL_ (some 16) rfl rfl Try.func42 (by kernel_rfl) rfl #[.slice ag ae.length ah, .slice A0 l0.length c0] rfl wT ?_; (with_reducible refine (spec_l01Join.calls k _ _ ae _ _ l0 ab _ ?side1 ?side2 ?side3 ?side4 A6.out).mono ?_); (case side1 => exact Ch aa); (case side2 => exact (Kd.R_reads' aa.out).2.1); (case side3 => exact Kd.C_below HR0.out wB); (case side4 => exact am.out); rintro e ao ⟨aq, rfl, af, hb⟩; refine ⟨_, rfl, ?_⟩; have ad := Aside0.mk (Kd.R_lower (Kd.R_new' af (Kd.R_lt (Rh aa))) (below_size wB)); replace aa := Aside0.mk (Kd.R_elder' (Rh aa) (Kd.R_base af) hb); replace HB := Aside0.mk (below_step wB hb); (try clear hb); (try clear hb2); (try clear hk); (try clear hi); (try clear af); have n_ := Aside0.mk (Kd.R_mono (ok' := (fun _ => True)) ad.out (fun k_ hk => trivial)); clear ad; have ad := n_; clear n_; (try clear aa); obtain ⟨aj, ak, al⟩ := Kd.R_slice ad.out; subst al) | ((with_reducible refine gate_callee (f := 49) rfl ?_); refine goesL_ (some 17) rfl rfl Try.func49 (by kernel_rfl) rfl #[.slice aj ab.length ak] rfl wT ?_; (with_reducible refine (spec_Checksum.calls k _ _ ab ac _ ?side1 ?side2 A7.out).mono ?_); (case side1 => exact Ch ad); (case side2 => exact (Kd.R_reads' ad.out).2.1); rintro e w' ⟨rfl, ⟨nd, rfl⟩⟩; refine ⟨_, rfl, ?_⟩))
 go_ret
 exact ⟨by first | rfl | (simp [errW_none, errW_some] <;> rfl) | (simp [*, errW_none, errW_some] <;> rfl), wB⟩

/-! ### spec_l10PortOK: function 41 -/
def spec_l10PortOK.f (a0 : Int) : Option (Bool) := (spec_l01In.f a0 0 65535).bind fun t180 => (some t180)
set_option maxHeartbeats 60000000 in
set_option maxRecDepth 100000 in
theorem spec_l10PortOK.calls (a0 : Int) (r : Bool) (w : World) (h : spec_l10PortOK.f a0 = some r) :
 Calls Try.prog 41 #[.int .i64 a0] w fun e w' => e = .returned (.bool r) ∧ Drawn0 w w' := by
 have H : ((spec_l01In.f a0 0 65535).bind fun aa => (some aa)) = some r := h
 clear h
 replace H := Option.bind_eq_some_iff.mp H
 obtain ⟨aa, A20, H⟩ := H
 replace H : (some aa) = some r := H
 have A2 := Aside0.mk A20
 clear A20
 obtain rfl := Option.some.inj H
 go_enter Try.func41, Try.ntmps41
 go_wp2_with (first | ((with_reducible refine gate_callee (f := 48) rfl ?_); refine goesL_ (some 4) rfl rfl Try.func48 (by kernel_rfl) rfl #[.int .i64 a0, .int .i64 0, .int .i64 65535] rfl wT ?_; (with_reducible refine (spec_l01In.calls a0 0 65535 aa _ A2.out).mono ?_); rintro e w' ⟨rfl, ⟨nd, rfl⟩⟩; refine ⟨_, rfl, ?_⟩))
 go_ret
 exact ⟨by first | rfl | (simp; done) | (simp [*]; done), by repeat (first | exact Drawn0.refl _ | apply Drawn0.step)⟩

/-! ### spec_EncodeUdp: function 15 -/
def spec_EncodeUdp.j0 : Nat → Int → Int → Bool → Int → Int → List Int → Option (List Int × Int)
  | 0, _, _, _, _, _, _ => none
  | k + 1, x1, x2, al, ad, ae, ab => if al = true then (some (([] : List Int), 1)) else (if (ab.length : Int) > 65507 then (some (([] : List Int), 7)) else ((spec_l03Put.f k ad 2).bind fun af => ((spec_l03Put.f k ae 2).bind fun ag => ((spec_l01Join.f k af ag).bind fun ah => ((spec_l03Put.f k (wrap64 (8 + (ab.length : Int))) 2).bind fun ai => ((spec_l01Join.f k ah ai).bind fun aj => ((spec_l01Join.f k aj (([0, 0] : List Int))).bind fun ak => ((spec_l01Join.f k ak ab).bind fun aa => ((spec_l10Sum.f k aa x1 x2 17).bind fun ac => (if ac = 0 then (if 6 < (aa.length : Int) then (if 7 < (aa.length : Int) then (some (((aa.set (6 : Int).toNat (65535 / 256)).set (7 : Int).toNat ((65535) % 256)), 0)) else (none)) else (none)) else (if 6 < (aa.length : Int) then (if 7 < (aa.length : Int) then (some (((aa.set (6 : Int).toNat ((ac / 256) % 256)).set (7 : Int).toNat ((ac) % 256)), 0)) else (none)) else (none))))))))))))
def spec_EncodeUdp.f (k : Nat) (aa : Int) (ab : Int) (ac : List Int) (a1 : Int) (a2 : Int) : Option (List Int × Int) := (spec_l10PortOK.f aa).bind fun ad => (if ad = true then ((spec_l10PortOK.f ab).bind fun ae => (if ae = true then ((spec_l02AddrOK.f a1).bind fun af => (if af = true then ((spec_l02AddrOK.f a2).bind fun ag => (spec_EncodeUdp.j0 k a1 a2 (!ag) aa ab ac)) else (spec_EncodeUdp.j0 k a1 a2 true aa ab ac))) else (spec_EncodeUdp.j0 k a1 a2 true aa ab ac))) else (spec_EncodeUdp.j0 k a1 a2 true aa ab ac))
theorem spec_EncodeUdp.mono_l : ∀ k, (∀ y0 y1 y2 y3 y4 y5, LeO (spec_EncodeUdp.j0 k y0 y1 y2 y3 y4 y5) (spec_EncodeUdp.j0 (k + 1) y0 y1 y2 y3 y4 y5))
  | 0 => fun _ _ _ _ _ _ r h => by simp [spec_EncodeUdp.j0] at h
  | k + 1 => by
    have ih0 := spec_EncodeUdp.mono_l k
    · intro y0 y1 y2 y3 y4 y5
      unfold spec_EncodeUdp.j0
      repeat' first
      | (with_reducible exact ih0 _ _ _ _ _ _)
      | (with_reducible exact spec_l01Join.mono _ _ _)
      | (with_reducible exact spec_l03Put.mono _ _ _)
      | (with_reducible exact spec_l10Sum.mono _ _ _ _ _)
      | (with_reducible exact LeO.refl _)
      | (with_reducible exact LeO.none _)
      | (with_reducible refine LeO.ite ?_ ?_)
      | (with_reducible refine LeO.bind ?_ (fun _ => ?_))
      | exact ih0 _ _ _ _ _ _
      | exact spec_l01Join.mono _ _ _
      | exact spec_l03Put.mono _ _ _
      | exact spec_l10Sum.mono _ _ _ _ _
      | exact LeO.none _
      | refine LeO.ite ?_ ?_
      | refine LeO.bind ?_ (fun _ => ?_)
theorem spec_EncodeUdp.mono : ∀ a0 a1 a2 a3 a4 k, LeO (spec_EncodeUdp.f k a0 a1 a2 a3 a4) (spec_EncodeUdp.f (k + 1) a0 a1 a2 a3 a4) := by
 intro a0 a1 a2 a3 a4 k
 have ih0 := spec_EncodeUdp.mono_l k
 unfold spec_EncodeUdp.f
 repeat' first
     | (with_reducible exact ih0 _ _ _ _ _ _)
     | (with_reducible exact spec_l01Join.mono _ _ _)
     | (with_reducible exact spec_l03Put.mono _ _ _)
     | (with_reducible exact spec_l10Sum.mono _ _ _ _ _)
     | (with_reducible exact LeO.refl _)
     | (with_reducible exact LeO.none _)
     | (with_reducible refine LeO.ite ?_ ?_)
     | (with_reducible refine LeO.bind ?_ (fun _ => ?_))
     | exact ih0 _ _ _ _ _ _
     | exact spec_l01Join.mono _ _ _
     | exact spec_l03Put.mono _ _ _
     | exact spec_l10Sum.mono _ _ _ _ _
     | exact LeO.none _
     | refine LeO.ite ?_ ?_
     | refine LeO.bind ?_ (fun _ => ?_)
def spec_EncodeUdp.T5 : Bool × List (List Nat × List Nat) := (true, [([], []), ([0], [0]), ([1], [1]), ([], []), ([3], [3]), ([4, 2], [4]), ([2, 5, 5], [2, 5]), ([6, 6, 0, 1, 2, 3, 4, 5, 6], [6])])
def spec_EncodeUdp.B5 : List Nat := [0, 1, 3, 0, 8, 31, 63, 127]
theorem spec_EncodeUdp.tab5 : rtab .any (opsOf Try.f15 5) = spec_EncodeUdp.T5 := by kernel_rfl
theorem spec_EncodeUdp.bits5 : waitsOk spec_EncodeUdp.T5.2 spec_EncodeUdp.B5 = true := by kernel_rfl
set_option maxHeartbeats 60000000 in
set_option maxRecDepth 100000 in
theorem spec_EncodeUdp.calls (k : Nat) (ai : Int) (ag : Int) (A0_2 : Option Addr) (aO : Nat) (ad : List Int) (a1 : Int) (a2 : Int) (r1 : List Int) (r2 : Int) (w : World) (hr0_2 : Kd.C (Kd.int .u8) w A0_2 ad.length ad) (hc0_2 : ad.length ≤ aO) (h : spec_EncodeUdp.f k ai ag ad a1 a2 = some (r1, r2)) :
 Calls Try.prog 15 #[.agg #[.int .i64 ai, .int .i64 ag, .slice A0_2 ad.length aO], .int .i64 a1, .int .i64 a2] w fun e w' => ∃ v0_ : Value, e = .returned (.tuple #[v0_, .int .i64 r2]) ∧ Kd.R (Kd.int .u8) 5 w' w.heap.size (fun _ => True) v0_ r1 ∧ Below w.heap.size w w' := by
 have hu39 := Try.underlying39
 have HR0_2 := Aside0.mk hr0_2
 have bN := Aside0.mk hc0_2
 clear hr0_2 hc0_2
 have HB := Aside0.mk (Below.refl w.heap.size w)
 have H : ((spec_l10PortOK.f ai).bind fun bc => (if bc = true then ((spec_l10PortOK.f ag).bind fun aL => (if aL = true then ((spec_l02AddrOK.f a1).bind fun ax => (if ax = true then ((spec_l02AddrOK.f a2).bind fun aq => (spec_EncodeUdp.j0 k a1 a2 (!aq) ai ag ad)) else (spec_EncodeUdp.j0 k a1 a2 true ai ag ad))) else (spec_EncodeUdp.j0 k a1 a2 true ai ag ad))) else (spec_EncodeUdp.j0 k a1 a2 true ai ag ad))) = some (r1, r2) := h
 clear h
 have br := Aside0.mk H
 clear H
 go_enter Try.func15, Try.ntmps15
 go_upto_region 1 with (first | ((with_reducible refine gate_dst (N := 3) rfl ?_); refine box_event ?hg (N := 3) ?hd (cs := #[.int .i64 ai, .int .i64 ag, .slice A0_2 ad.length aO]) (t := 39) ?hr ?_; (case hd => rfl); (case hg => rfl); (case hr => first | (go_simp; done) | (go_simp; rfl)); intro aA hg bZ hbox hb; have aa := Aside0.mk (hbox); have bO := Aside0.mk ((by rw [hg]; exact (below_size wB) : w.heap.size ≤ aA)); replace HB := Aside0.mk (below_step wB hb); have b0 := bO; clear hb hbox hg))
 (try simp only [Act.put, List.setIfInBounds_toArray, List.set_cons_zero, List.set_cons_succ])
 go_cut [29] (fun bW wc => ∃ (kq : Nat) (a6 : Bool), bW = .bool a6 ∧ Aside0 (spec_EncodeUdp.j0 kq a1 a2 a6 ai ag ad = some (r1, r2)) ∧ Aside0 (kq ≤ k) ∧ Aside0 (wc.heap[aA]? = some (.cells #[.int .i64 ai, .int .i64 ag, (.slice A0_2 ad.length aO)] 39 (0, 0))) ∧ Aside0 (Below w.heap.size w wc))
 case first => (
 have H := br.out
 clear br
 replace H := Option.bind_eq_some_iff.mp H
 obtain ⟨bc, A10020, H⟩ := H
 replace H : (if bc = true then ((spec_l10PortOK.f ag).bind fun aL => (if aL = true then ((spec_l02AddrOK.f a1).bind fun ax => (if ax = true then ((spec_l02AddrOK.f a2).bind fun aq => (spec_EncodeUdp.j0 k a1 a2 (!aq) ai ag ad)) else (spec_EncodeUdp.j0 k a1 a2 true ai ag ad))) else (spec_EncodeUdp.j0 k a1 a2 true ai ag ad))) else (spec_EncodeUdp.j0 k a1 a2 true ai ag ad)) = some (r1, r2) := H
 have A1002 := Aside0.mk A10020
 clear A10020
 by_cases aQ : bc = true
 subst aQ
 have H1 : ((spec_l10PortOK.f ag).bind fun aL => (if aL = true then ((spec_l02AddrOK.f a1).bind fun ax => (if ax = true then ((spec_l02AddrOK.f a2).bind fun aq => (spec_EncodeUdp.j0 k a1 a2 (!aq) ai ag ad)) else (spec_EncodeUdp.j0 k a1 a2 true ai ag ad))) else (spec_EncodeUdp.j0 k a1 a2 true ai ag ad))) = some (r1, r2) := by rw [if_pos rfl] at H; exact H
 clear H
 have H := H1
 clear H1
 replace H := Option.bind_eq_some_iff.mp H
 obtain ⟨aL, A10040, H⟩ := H
 replace H : (if aL = true then ((spec_l02AddrOK.f a1).bind fun ax => (if ax = true then ((spec_l02AddrOK.f a2).bind fun aq => (spec_EncodeUdp.j0 k a1 a2 (!aq) ai ag ad)) else (spec_EncodeUdp.j0 k a1 a2 true ai ag ad))) else (spec_EncodeUdp.j0 k a1 a2 true ai ag ad)) = some (r1, r2) := H
 have A1004 := Aside0.mk A10040
 clear A10040
 by_cases aR : aL = true
 subst aR
 have H1 : ((spec_l02AddrOK.f a1).bind fun ax => (if ax = true then ((spec_l02AddrOK.f a2).bind fun aq => (spec_EncodeUdp.j0 k a1 a2 (!aq) ai ag ad)) else (spec_EncodeUdp.j0 k a1 a2 true ai ag ad))) = some (r1, r2) := by rw [if_pos rfl] at H; exact H
 clear H
 have H := H1
 clear H1
 replace H := Option.bind_eq_some_iff.mp H
 obtain ⟨ax, A10060, H⟩ := H
 replace H : (if ax = true then ((spec_l02AddrOK.f a2).bind fun aq => (spec_EncodeUdp.j0 k a1 a2 (!aq) ai ag ad)) else (spec_EncodeUdp.j0 k a1 a2 true ai ag ad)) = some (r1, r2) := H
 have A1006 := Aside0.mk A10060
 clear A10060
 by_cases aS : ax = true
 subst aS
 have H1 : ((spec_l02AddrOK.f a2).bind fun aq => (spec_EncodeUdp.j0 k a1 a2 (!aq) ai ag ad)) = some (r1, r2) := by rw [if_pos rfl] at H; exact H
 clear H
 have H := H1
 clear H1
 replace H := Option.bind_eq_some_iff.mp H
 obtain ⟨aq, A10080, H⟩ := H
 replace H : (spec_EncodeUdp.j0 k a1 a2 (!aq) ai ag ad) = some (r1, r2) := H
 have A1008 := Aside0.mk A10080
 clear A10080
 have H' := Aside0.mk H
 clear H
 rotate_left
 replace aS := Bool.eq_false_iff.mpr aS
 subst aS
 have H1 : (spec_EncodeUdp.j0 k a1 a2 true ai ag ad) = some (r1, r2) := by rw [if_neg (show ¬ (false = true) by decide)] at H; exact H
 clear H
 have H := H1
 clear H1
 have H' := Aside0.mk H
 clear H
 rotate_left
 replace aR := Bool.eq_false_iff.mpr aR
 subst aR
 have H1 : (spec_EncodeUdp.j0 k a1 a2 true ai ag ad) = some (r1, r2) := by rw [if_neg (show ¬ (false = true) by decide)] at H; exact H
 clear H
 have H := H1
 clear H1
 have H' := Aside0.mk H
 clear H
 rotate_left
 replace aQ := Bool.eq_false_iff.mpr aQ
 subst aQ
 have H1 : (spec_EncodeUdp.j0 k a1 a2 true ai ag ad) = some (r1, r2) := by rw [if_neg (show ¬ (false = true) by decide)] at H; exact H
 clear H
 have H := H1
 clear H1
 have H' := Aside0.mk H
 clear H
 rotate_left
 all_goals (
 obtain ⟨⟨aY, aZ, a0⟩, a3, a4, a5⟩ := cells3 aa.out
 go_wp2_with (first | ((with_reducible refine gate_callee (f := 41) rfl ?_); refine goesL_ (some 12) rfl rfl Try.func41 (by kernel_rfl) rfl #[.int .i64 ai] rfl wT ?_; (with_reducible refine (spec_l10PortOK.calls ai _ _ A1002.out).mono ?_); rintro e w' ⟨rfl, ⟨nd, rfl⟩⟩; refine ⟨_, rfl, ?_⟩) | (go_at_call 41; (with_reducible refine (spec_l10PortOK.calls ag _ _ A1004.out).mono ?_); rintro e w' ⟨rfl, ⟨nd, rfl⟩⟩) | (go_at_call 23; (with_reducible refine (spec_l02AddrOK.calls a1 _ _ A1006.out).mono ?_); rintro e w' ⟨rfl, ⟨nd, rfl⟩⟩) | (go_at_call 23; (with_reducible refine (spec_l02AddrOK.calls a2 aq _ A1008.out).mono ?_); rintro e w' ⟨rfl, ⟨nd, rfl⟩⟩))
 go_meet
 )
 {
 case rel => exact ⟨_, (!aq), (by first | rfl | (simp; done) | (simp [*]; done)), H', ⟨by first | omega | exact Nat.le_refl _⟩, ⟨Bh aa⟩, ⟨wB⟩⟩
 }
 all_goals (
 case rel => exact ⟨_, (true), (by first | rfl | (simp; done) | (simp [*]; done)), H', ⟨by first | omega | exact Nat.le_refl _⟩, ⟨Bh aa⟩, ⟨wB⟩⟩
 )
 )
 case rest => (
 clear br
 try clear c0
 try clear aQ
 try clear aR
 try clear aS
 try clear aY aZ a0 a3 a4 a5
 obtain ⟨kq, a6, rfl, HA, HJ3, aa, HB⟩ := hcut
 cases kq with
 | zero => exact absurd HA.out (by simp [spec_EncodeUdp.j0])
 | succ aj => {
 have H := HA.out
 clear HA
 simp only [spec_EncodeUdp.j0] at H
 by_cases a7 : a6 = true
 subst a7
 have H1 : (some (([] : List Int), 1)) = some (r1, r2) := by rw [if_pos rfl] at H; exact H
 clear H
 have H := H1
 clear H1
 simp only [Option.some.injEq, Prod.mk.injEq] at H
 obtain ⟨rfl, rfl⟩ := H
 rotate_left
 replace a7 := Bool.eq_false_iff.mpr a7
 subst a7
 have H1 : (if (ad.length : Int) > 65507 then (some (([] : List Int), 7)) else ((spec_l03Put.f aj ai 2).bind fun aP => ((spec_l03Put.f aj ag 2).bind fun aM => ((spec_l01Join.f aj aP aM).bind fun az => ((spec_l03Put.f aj (wrap64 (8 + (ad.length : Int))) 2).bind fun ay => ((spec_l01Join.f aj az ay).bind fun av => ((spec_l01Join.f aj av (([0, 0] : List Int))).bind fun ap => ((spec_l01Join.f aj ap ad).bind fun ab => ((spec_l10Sum.f aj ab a1 a2 17).bind fun ae => (if ae = 0 then (if 6 < (ab.length : Int) then (if 7 < (ab.length : Int) then (some (((ab.set (6 : Int).toNat (65535 / 256)).set (7 : Int).toNat ((65535) % 256)), 0)) else (none)) else (none)) else (if 6 < (ab.length : Int) then (if 7 < (ab.length : Int) then (some (((ab.set (6 : Int).toNat ((ae / 256) % 256)).set (7 : Int).toNat ((ae) % 256)), 0)) else (none)) else (none)))))))))))) = some (r1, r2) := by rw [if_neg (show ¬ (false = true) by decide)] at H; exact H
 clear H
 have H := H1
 clear H1
 by_cases aN : (ad.length : Int) > 65507
 rw [if_pos aN] at H
 have c1010b0 : decide (65507 < (ad.length : Int)) = true := decide_eq_true aN
 have c1010b1 : decide (65507 < ad.length) = true := decide_eq_true (by omega)
 clear aN
 simp only [Option.some.injEq, Prod.mk.injEq] at H
 obtain ⟨rfl, rfl⟩ := H
 rotate_left
 rw [if_neg aN] at H
 have c1010b0 : decide (65507 < (ad.length : Int)) = false := decide_eq_false aN
 have c1010b1 : decide (65507 < ad.length) = false := decide_eq_false (by omega)
 clear aN
 replace H := Option.bind_eq_some_iff.mp H
 obtain ⟨aP, A10110, H⟩ := H
 replace H : ((spec_l03Put.f aj ag 2).bind fun aM => ((spec_l01Join.f aj aP aM).bind fun az => ((spec_l03Put.f aj (wrap64 (8 + (ad.length : Int))) 2).bind fun ay => ((spec_l01Join.f aj az ay).bind fun av => ((spec_l01Join.f aj av (([0, 0] : List Int))).bind fun ap => ((spec_l01Join.f aj ap ad).bind fun ab => ((spec_l10Sum.f aj ab a1 a2 17).bind fun ae => (if ae = 0 then (if 6 < (ab.length : Int) then (if 7 < (ab.length : Int) then (some (((ab.set (6 : Int).toNat (65535 / 256)).set (7 : Int).toNat ((65535) % 256)), 0)) else (none)) else (none)) else (if 6 < (ab.length : Int) then (if 7 < (ab.length : Int) then (some (((ab.set (6 : Int).toNat ((ae / 256) % 256)).set (7 : Int).toNat ((ae) % 256)), 0)) else (none)) else (none)))))))))) = some (r1, r2) := H
 have A1011 := Aside0.mk A10110
 clear A10110
 replace H := Option.bind_eq_some_iff.mp H
 obtain ⟨aM, A10120, H⟩ := H
 replace H : ((spec_l01Join.f aj aP aM).bind fun az => ((spec_l03Put.f aj (wrap64 (8 + (ad.length : Int))) 2).bind fun ay => ((spec_l01Join.f aj az ay).bind fun av => ((spec_l01Join.f aj av (([0, 0] : List Int))).bind fun ap => ((spec_l01Join.f aj ap ad).bind fun ab => ((spec_l10Sum.f aj ab a1 a2 17).bind fun ae => (if ae = 0 then (if 6 < (ab.length : Int) then (if 7 < (ab.length : Int) then (some (((ab.set (6 : Int).toNat (65535 / 256)).set (7 : Int).toNat ((65535) % 256)), 0)) else (none)) else (none)) else (if 6 < (ab.length : Int) then (if 7 < (ab.length : Int) then (some (((ab.set (6 : Int).toNat ((ae / 256) % 256)).set (7 : Int).toNat ((ae) % 256)), 0)) else (none)) else (none))))))))) = some (r1, r2) := H
 have A1012 := Aside0.mk A10120
 clear A10120
 replace H := Option.bind_eq_some_iff.mp H
 obtain ⟨az, A10130, H⟩ := H
 replace H : ((spec_l03Put.f aj (wrap64 (8 + (ad.length : Int))) 2).bind fun ay => ((spec_l01Join.f aj az ay).bind fun av => ((spec_l01Join.f aj av (([0, 0] : List Int))).bind fun ap => ((spec_l01Join.f aj ap ad).bind fun ab => ((spec_l10Sum.f aj ab a1 a2 17).bind fun ae => (if ae = 0 then (if 6 < (ab.length : Int) then (if 7 < (ab.length : Int) then (some (((ab.set (6 : Int).toNat (65535 / 256)).set (7 : Int).toNat ((65535) % 256)), 0)) else (none)) else (none)) else (if 6 < (ab.length : Int) then (if 7 < (ab.length : Int) then (some (((ab.set (6 : Int).toNat ((ae / 256) % 256)).set (7 : Int).toNat ((ae) % 256)), 0)) else (none)) else (none)))))))) = some (r1, r2) := H
 have A1013 := Aside0.mk A10130
 clear A10130
 replace H := Option.bind_eq_some_iff.mp H
 obtain ⟨ay, A10140, H⟩ := H
 replace H : ((spec_l01Join.f aj az ay).bind fun av => ((spec_l01Join.f aj av (([0, 0] : List Int))).bind fun ap => ((spec_l01Join.f aj ap ad).bind fun ab => ((spec_l10Sum.f aj ab a1 a2 17).bind fun ae => (if ae = 0 then (if 6 < (ab.length : Int) then (if 7 < (ab.length : Int) then (some (((ab.set (6 : Int).toNat (65535 / 256)).set (7 : Int).toNat ((65535) % 256)), 0)) else (none)) else (none)) else (if 6 < (ab.length : Int) then (if 7 < (ab.length : Int) then (some (((ab.set (6 : Int).toNat ((ae / 256) % 256)).set (7 : Int).toNat ((ae) % 256)), 0)) else (none)) else (none))))))) = some (r1, r2) := H
 have A1014 := Aside0.mk A10140
 clear A10140
 replace H := Option.bind_eq_some_iff.mp H
 obtain ⟨av, A10150, H⟩ := H
 replace H : ((spec_l01Join.f aj av (([0, 0] : List Int))).bind fun ap => ((spec_l01Join.f aj ap ad).bind fun ab => ((spec_l10Sum.f aj ab a1 a2 17).bind fun ae => (if ae = 0 then (if 6 < (ab.length : Int) then (if 7 < (ab.length : Int) then (some (((ab.set (6 : Int).toNat (65535 / 256)).set (7 : Int).toNat ((65535) % 256)), 0)) else (none)) else (none)) else (if 6 < (ab.length : Int) then (if 7 < (ab.length : Int) then (some (((ab.set (6 : Int).toNat ((ae / 256) % 256)).set (7 : Int).toNat ((ae) % 256)), 0)) else (none)) else (none)))))) = some (r1, r2) := H
 have A1015 := Aside0.mk A10150
 clear A10150
 obtain ⟨bo, aT⟩ : ∃ y_ : List Int, y_ = (([0, 0] : List Int)) := ⟨_, rfl⟩
 replace H : ((spec_l01Join.f aj av bo).bind fun ap => ((spec_l01Join.f aj ap ad).bind fun ab => ((spec_l10Sum.f aj ab a1 a2 17).bind fun ae => (if ae = 0 then (if 6 < (ab.length : Int) then (if 7 < (ab.length : Int) then (some (((ab.set (6 : Int).toNat (65535 / 256)).set (7 : Int).toNat ((65535) % 256)), 0)) else (none)) else (none)) else (if 6 < (ab.length : Int) then (if 7 < (ab.length : Int) then (some (((ab.set (6 : Int).toNat ((ae / 256) % 256)).set (7 : Int).toNat ((ae) % 256)), 0)) else (none)) else (none)))))) = some (r1, r2) := by first | (rw [aT]; with_reducible exact H) | (have H2_ := (Option.bind_some _ _).symm.trans H; rw [aT]; with_reducible exact H2_) | (have H2_ := (Option.bind_some _ _).symm.trans H; with_reducible exact H2_) | with_reducible exact H | (rw [aT]; exact H) | exact H
 have Ny201 := Aside0.mk aT
 clear aT
 replace H := Option.bind_eq_some_iff.mp H
 obtain ⟨ap, A10160, H⟩ := H
 replace H : ((spec_l01Join.f aj ap ad).bind fun ab => ((spec_l10Sum.f aj ab a1 a2 17).bind fun ae => (if ae = 0 then (if 6 < (ab.length : Int) then (if 7 < (ab.length : Int) then (some (((ab.set (6 : Int).toNat (65535 / 256)).set (7 : Int).toNat ((65535) % 256)), 0)) else (none)) else (none)) else (if 6 < (ab.length : Int) then (if 7 < (ab.length : Int) then (some (((ab.set (6 : Int).toNat ((ae / 256) % 256)).set (7 : Int).toNat ((ae) % 256)), 0)) else (none)) else (none))))) = some (r1, r2) := H
 have A1016 := Aside0.mk A10160
 clear A10160
 replace H := Option.bind_eq_some_iff.mp H
 obtain ⟨ab, A10170, H⟩ := H
 replace H : ((spec_l10Sum.f aj ab a1 a2 17).bind fun ae => (if ae = 0 then (if 6 < (ab.length : Int) then (if 7 < (ab.length : Int) then (some (((ab.set (6 : Int).toNat (65535 / 256)).set (7 : Int).toNat ((65535) % 256)), 0)) else (none)) else (none)) else (if 6 < (ab.length : Int) then (if 7 < (ab.length : Int) then (some (((ab.set (6 : Int).toNat ((ae / 256) % 256)).set (7 : Int).toNat ((ae) % 256)), 0)) else (none)) else (none)))) = some (r1, r2) := H
 have A1017 := Aside0.mk A10170
 clear A10170
 replace H := Option.bind_eq_some_iff.mp H
 obtain ⟨ae, A10180, H⟩ := H
 replace H : (if ae = 0 then (if 6 < (ab.length : Int) then (if 7 < (ab.length : Int) then (some (((ab.set (6 : Int).toNat (65535 / 256)).set (7 : Int).toNat ((65535) % 256)), 0)) else (none)) else (none)) else (if 6 < (ab.length : Int) then (if 7 < (ab.length : Int) then (some (((ab.set (6 : Int).toNat ((ae / 256) % 256)).set (7 : Int).toNat ((ae) % 256)), 0)) else (none)) else (none))) = some (r1, r2) := H
 have A1018 := Aside0.mk A10180
 clear A10180
 by_cases aD : ae = 0
 rw [if_pos aD] at H
 have c1019b0 : (ae == 0) = true := beq_iff_eq.mpr aD
 have c1019b1 : (ae != 0) = false := bne_eq_false_iff_eq.mpr aD
 clear aD
 by_cases a8 : 6 < (ab.length : Int)
 rw [if_pos a8] at H
 have c1020b0 : decide (6 < (ab.length : Int)) = true := decide_eq_true a8
 have c1020b1 : decide (6 < ab.length) = true := decide_eq_true (by omega)
 clear a8
 obtain ⟨bp, aU⟩ : ∃ y_ : List Int, y_ = (ab.set (6 : Int).toNat (65535 / 256)) := ⟨_, rfl⟩
 replace H : (if 7 < (ab.length : Int) then (some ((bp.set (7 : Int).toNat ((65535) % 256)), 0)) else (none)) = some (r1, r2) := by first | (rw [aU]; with_reducible exact H) | (have H2_ := (Option.bind_some _ _).symm.trans H; rw [aU]; with_reducible exact H2_) | (have H2_ := (Option.bind_some _ _).symm.trans H; with_reducible exact H2_) | with_reducible exact H | (rw [aU]; exact H) | exact H
 have Ny211 := Aside0.mk aU
 clear aU
 by_cases a9 : 7 < (ab.length : Int)
 rw [if_pos a9] at H
 have c1022b0 : decide (7 < (ab.length : Int)) = true := decide_eq_true a9
 have c1022b1 : decide (7 < ab.length) = true := decide_eq_true (by omega)
 clear a9
 obtain ⟨bs, aV⟩ : ∃ y_ : List Int, y_ = (bp.set (7 : Int).toNat ((65535) % 256)) := ⟨_, rfl⟩
 replace H : (some (bs, 0)) = some (r1, r2) := by first | (rw [aV]; with_reducible exact H) | (have H2_ := (Option.bind_some _ _).symm.trans H; rw [aV]; with_reducible exact H2_) | (have H2_ := (Option.bind_some _ _).symm.trans H; with_reducible exact H2_) | with_reducible exact H | (rw [aV]; exact H) | exact H
 have Ny212 := Aside0.mk aV
 clear aV
 simp only [Option.some.injEq, Prod.mk.injEq] at H
 obtain ⟨rfl, rfl⟩ := H
 rotate_left
 rw [if_neg a9] at H
 exact absurd H (by simp)
 rw [if_neg a8] at H
 exact absurd H (by simp)
 rw [if_neg aD] at H
 have c1019b0 : (ae == 0) = false := beq_eq_false_iff_ne.mpr aD
 have c1019b1 : (ae != 0) = true := bne_iff_ne.mpr aD
 by_cases ba : 6 < (ab.length : Int)
 rw [if_pos ba] at H
 have c1024b0 : decide (6 < (ab.length : Int)) = true := decide_eq_true ba
 have c1024b1 : decide (6 < ab.length) = true := decide_eq_true (by omega)
 clear ba
 obtain ⟨bq, aW⟩ : ∃ y_ : List Int, y_ = (ab.set (6 : Int).toNat ((ae / 256) % 256)) := ⟨_, rfl⟩
 replace H : (if 7 < (ab.length : Int) then (some ((bq.set (7 : Int).toNat ((ae) % 256)), 0)) else (none)) = some (r1, r2) := by first | (rw [aW]; with_reducible exact H) | (have H2_ := (Option.bind_some _ _).symm.trans H; rw [aW]; with_reducible exact H2_) | (have H2_ := (Option.bind_some _ _).symm.trans H; with_reducible exact H2_) | with_reducible exact H | (rw [aW]; exact H) | exact H
 have Ny213 := Aside0.mk aW
 clear aW
 by_cases bb : 7 < (ab.length : Int)
 rw [if_pos bb] at H
 have c1026b0 : decide (7 < (ab.length : Int)) = true := decide_eq_true bb
 have c1026b1 : decide (7 < ab.length) = true := decide_eq_true (by omega)
 clear bb
 obtain ⟨bu, aX⟩ : ∃ y_ : List Int, y_ = (bq.set (7 : Int).toNat ((ae) % 256)) := ⟨_, rfl⟩
 replace H : (some (bu, 0)) = some (r1, r2) := by first | (rw [aX]; with_reducible exact H) | (have H2_ := (Option.bind_some _ _).symm.trans H; rw [aX]; with_reducible exact H2_) | (have H2_ := (Option.bind_some _ _).symm.trans H; with_reducible exact H2_) | with_reducible exact H | (rw [aX]; exact H) | exact H
 have Ny214 := Aside0.mk aX
 clear aX
 simp only [Option.some.injEq, Prod.mk.injEq] at H
 obtain ⟨rfl, rfl⟩ := H
 rotate_left
 rw [if_neg bb] at H
 exact absurd H (by simp)
 rw [if_neg ba] at H
 exact absurd H (by simp)
 {
 go_wp2
 go_ret2
 exact ⟨_, by first | rfl | (simp [errW_none, errW_some] <;> rfl) | (simp [*, errW_none, errW_some] <;> rfl), by first | exact Kd.R_nil _ _ _ _ _ | exact Kd.N_nil _ _ _ _ _ | exact Kd.V_nil _ _ _ _ _ | exact Kd.Q_nil _ _ _ _ _ | exact Kd.S_nil _ _ _ _ _, wB⟩
 }
 all_goals (
 obtain ⟨⟨aY, aZ, a0⟩, a3, a4, a5⟩ := cells3 aa.out
 try go_wp2
 )
 {
 go_ret2
 exact ⟨_, by first | rfl | (simp [errW_none, errW_some] <;> rfl) | (simp [*, errW_none, errW_some] <;> rfl), by first | exact Kd.R_nil _ _ _ _ _ | exact Kd.N_nil _ _ _ _ _ | exact Kd.V_nil _ _ _ _ _ | exact Kd.Q_nil _ _ _ _ _ | exact Kd.S_nil _ _ _ _ _, wB⟩
 }
 all_goals (
 have n0_ := Aside0.mk (blk_drew aa.out)
 have n1_ := Aside0.mk (below_drew1 HB.out)
 clear aa
 clear HB
 have aa := n0_
 have HB := n1_
 clear n0_ n1_
 refine start_ (n := 8) (S := fun w' => w'.cell? ⟨aA, 0, none⟩ = some (.int .i64 ai) ∧ w'.cell? ⟨aA, 1, none⟩ = some (.int .i64 ag) ∧ w'.cell? ⟨aA, 2, none⟩ = some (.slice A0_2 ad.length aO)) (ds := []) #[false, false, false, false, false, false, false, false] (by kernel_rfl) rfl rfl ⟨(blk_cell aa.out 0).trans rfl, (blk_cell aa.out 1).trans rfl, (blk_cell aa.out 2).trans rfl⟩ (fun hHeld => ?_); refine with_tabW spec_EncodeUdp.tab5 spec_EncodeUdp.bits5 (fun HT_ HW_ => ?_)
 generalize wc.drew = b1 at aa HB hHeld ⊢
 refine pure_ (i := 0) (N := some 34) (v := ?_) (a' := ?_) #[true, false, false, false, false, false, false, false] rfl rfl (any_of HT_.out (by kernel_rfl)) (fun _ _ _ h => h) (Or.inl ⟨by rfl, ?_⟩) ?_ ?_
 rotate_left
 {
 intro w'
 go_simp
 with_reducible rfl
 }
 rotate_left
 {
 simp only [Act.put, List.setIfInBounds_toArray, List.set_cons_zero, List.set_cons_succ, i64_w, i32_w]
 rfl
 }
 refine pure_ (i := 3) (N := some 37) (v := ?_) (a' := ?_) #[true, false, false, true, false, false, false, false] rfl rfl (any_of HT_.out (by kernel_rfl)) (fun _ _ _ h => h) (Or.inl ⟨by rfl, ?_⟩) ?_ ?_
 rotate_left
 {
 intro w'
 go_simp
 with_reducible rfl
 }
 rotate_left
 {
 simp only [Act.put, List.setIfInBounds_toArray, List.set_cons_zero, List.set_cons_succ, i64_w, i32_w]
 rfl
 }
 refine take_ (i := 1) (N := some 35) (v := ?_) (a' := ?_) #[true, true, false, true, false, false, false, false] rfl rfl (take_ofW HT_.out HW_.out (by kernel_rfl)) (fun _ _ _ h => h) (Or.inl ⟨by rfl, ?_⟩) hHeld ?_ ?_
 rotate_left
 {
 rintro w' ⟨s0, s1, s2⟩
 go_simp
 with_reducible rfl
 }
 rotate_left
 {
 simp only [Act.put, List.setIfInBounds_toArray, List.set_cons_zero, List.set_cons_succ, i64_w, i32_w]
 rfl
 }
 refine take_ (i := 4) (N := some 38) (v := ?_) (a' := ?_) #[true, true, false, true, true, false, false, false] rfl rfl (take_ofW HT_.out HW_.out (by kernel_rfl)) (fun _ _ _ h => h) (Or.inl ⟨by rfl, ?_⟩) hHeld ?_ ?_
 rotate_left
 {
 rintro w' ⟨s0, s1, s2⟩
 go_simp
 with_reducible rfl
 }
 rotate_left
 {
 simp only [Act.put, List.setIfInBounds_toArray, List.set_cons_zero, List.set_cons_succ, i64_w, i32_w]
 rfl
 }
 refine one_ (i := 2) (N := some 36) #[true, true, true, true, true, false, false, false] rfl rfl (one_of HT_.out (by kernel_rfl)) (by decide) (fun K hK => ?_)
 refine goes_ Try.func43 (by kernel_rfl) rfl #[.int .i64 ai, .int .i64 2] (by rfl) rfl rfl wT ?_
 with_reducible refine (spec_l03Put.calls aj ai 2 aP _ A1011.out).mono ?_
 rintro e b2 ⟨ca, rfl, al, hb⟩
 refine ⟨_, rfl, ?_⟩
 have n0_ := Aside0.mk (Kd.R_lower al (below_size wB))
 have n1_ := Aside0.mk (blk_below (Bh aa) hb)
 have n2_ := Aside0.mk (below_step wB hb)
 clear aa
 clear HB
 have af := n0_
 have aa := n1_
 have HB := n2_
 clear n0_ n1_ n2_
 (try clear hb)
 (try clear hb2)
 (try clear hk)
 (try clear hi)
 (try clear al)
 refine hK.out _ _ ⟨(blk_cell aa.out 0).trans rfl, (blk_cell aa.out 1).trans rfl, (blk_cell aa.out 2).trans rfl⟩ (fun hHeld => ?_)
 clear hK K
 refine norm_ (a' := ?_) ?_ ?_
 rotate_left
 {
 show Act.put _ (some 36) _ = _
 simp only [Act.put, List.setIfInBounds_toArray, List.set_cons_zero, List.set_cons_succ, i64_w, i32_w]
 rfl
 }
 refine one_ (i := 5) (N := some 39) #[true, true, true, true, true, true, false, false] rfl rfl (one_of HT_.out (by kernel_rfl)) (by decide) (fun K hK => ?_)
 refine goes_ Try.func43 (by kernel_rfl) rfl #[.int .i64 ag, .int .i64 2] (by rfl) rfl rfl wT ?_
 with_reducible refine (spec_l03Put.calls aj ag 2 aM _ A1012.out).mono ?_
 rintro e b3 ⟨cb, rfl, al, hb⟩
 refine ⟨_, rfl, ?_⟩
 have n0_ := Aside0.mk (Kd.R_elder' (Rh af) (Kd.R_base al) hb)
 have n1_ := Aside0.mk (Kd.R_lower (Kd.R_new' al (Kd.R_lt (Rh af))) (below_size wB))
 have n2_ := Aside0.mk (blk_below (Bh aa) hb)
 have n3_ := Aside0.mk (below_step wB hb)
 clear af
 clear aa
 clear HB
 have af := n0_
 have ah := n1_
 have aa := n2_
 have HB := n3_
 clear n0_ n1_ n2_ n3_
 (try clear hb)
 (try clear hb2)
 (try clear hk)
 (try clear hi)
 (try clear al)
 obtain ⟨bv, bw, bd⟩ := Kd.R_slice af.out
 (first | subst bd | (injection bd with f1_ f2_ f3_; have f4_ := f1_.symm; have f5_ := f3_.symm; clear f1_ f2_ f3_; subst f4_; subst f5_))
 obtain ⟨bx, bz, bf⟩ := Kd.R_slice ah.out
 (first | subst bf | (injection bf with f1_ f2_ f3_; have f4_ := f1_.symm; have f5_ := f3_.symm; clear f1_ f2_ f3_; subst f4_; subst f5_))
 refine hK.out _ _ ⟨(blk_cell aa.out 0).trans rfl, (blk_cell aa.out 1).trans rfl, (blk_cell aa.out 2).trans rfl⟩ (fun hHeld => ?_)
 clear hK K
 refine norm_ (a' := ?_) ?_ ?_
 rotate_left
 {
 show Act.put _ (some 39) _ = _
 simp only [Act.put, List.setIfInBounds_toArray, List.set_cons_zero, List.set_cons_succ, i64_w, i32_w]
 rfl
 }
 refine one_ (i := 6) (N := some 40) #[true, true, true, true, true, true, true, false] rfl rfl (one_of HT_.out (by kernel_rfl)) (by decide) (fun K hK => ?_)
 refine goes_ Try.func42 (by kernel_rfl) rfl #[.slice bv aP.length bw, .slice bx aM.length bz] (by rfl) rfl rfl wT ?_
 with_reducible refine (spec_l01Join.calls aj _ _ aP _ _ aM az _ ?side1 ?side2 ?side3 ?side4 A1013.out).mono ?_
 (case side1 => exact Ch af)
 (case side2 => exact (Kd.R_reads' af.out).2.1)
 (case side3 => exact Ch ah)
 (case side4 => exact (Kd.R_reads' ah.out).2.1)
 rintro e b4 ⟨cc, rfl, al, hb⟩
 refine ⟨_, rfl, ?_⟩
 have n0_ := Aside0.mk (Kd.R_elder' (Rh af) (Kd.R_base al) hb)
 have n1_ := Aside0.mk (Kd.R_elder' (Rh ah) (Kd.R_base al) hb)
 have n2_ := Aside0.mk (Kd.R_lower (Kd.R_new' (Kd.R_new' al (Kd.R_lt (Rh af))) (Kd.R_lt (Rh ah))) (below_size wB))
 have n3_ := Aside0.mk (blk_below (Bh aa) hb)
 have n4_ := Aside0.mk (below_step wB hb)
 clear af
 clear ah
 clear aa
 clear HB
 have af := n0_
 have ah := n1_
 have ak := n2_
 have aa := n3_
 have HB := n4_
 clear n0_ n1_ n2_ n3_ n4_
 (try clear hb)
 (try clear hb2)
 (try clear hk)
 (try clear hi)
 (try clear al)
 refine hK.out _ _ ⟨(blk_cell aa.out 0).trans rfl, (blk_cell aa.out 1).trans rfl, (blk_cell aa.out 2).trans rfl⟩ (fun hHeld => ?_)
 clear hK K
 refine norm_ (a' := ?_) ?_ ?_
 rotate_left
 {
 show Act.put _ (some 40) _ = _
 simp only [Act.put, List.setIfInBounds_toArray, List.set_cons_zero, List.set_cons_succ, i64_w, i32_w]
 rfl
 }
 refine pure_ (i := 7) (N := some 8) (v := ?_) (a' := ?_) #[true, true, true, true, true, true, true, true] rfl rfl (any_of HT_.out (by kernel_rfl)) (fun _ _ _ h => h) (Or.inl ⟨by rfl, ?_⟩) ?_ ?_
 rotate_left
 {
 intro w'
 go_simp
 with_reducible rfl
 }
 rotate_left
 {
 simp only [Act.put, List.setIfInBounds_toArray, List.set_cons_zero, List.set_cons_succ, i64_w, i32_w]
 rfl
 }
 refine done_ (done_of HT_.out (by kernel_rfl)) ?_
 obtain ⟨⟨bQ, bR, bS⟩, bT, bU, bV⟩ := cells3 aa.out
 try go_wp2_with (first | ((with_reducible refine gate_callee (f := 43) rfl ?_); refine goesL_ (some 46) rfl rfl Try.func43 (by kernel_rfl) rfl #[.int .i64 (wrap64 (8 + (ad.length : Int))), .int .i64 2] rfl wT ?_; (with_reducible refine (spec_l03Put.calls aj (wrap64 (8 + (ad.length : Int))) 2 ay _ A1014.out).mono ?_); rintro e b5 ⟨cd, rfl, al, hb⟩; refine ⟨_, rfl, ?_⟩; have am := Aside0.mk (Kd.R_lower (Kd.R_new' (Kd.R_new' (Kd.R_new' al (Kd.R_lt (Rh af))) (Kd.R_lt (Rh ah))) (Kd.R_lt (Rh ak))) (below_size wB)); replace af := Aside0.mk (Kd.R_elder' (Rh af) (Kd.R_base al) hb); replace ah := Aside0.mk (Kd.R_elder' (Rh ah) (Kd.R_base al) hb); replace ak := Aside0.mk (Kd.R_elder' (Rh ak) (Kd.R_base al) hb); replace aa := Aside0.mk (blk_below (Bh aa) hb); replace HB := Aside0.mk (below_step wB hb); (try clear hb); (try clear hb2); (try clear hk); (try clear hi); (try clear al); obtain ⟨bA, bB, bC⟩ := Kd.R_slice ak.out; subst bC; obtain ⟨bD, bE, bF⟩ := Kd.R_slice am.out; subst bF) | ((with_reducible refine gate_callee (f := 42) rfl ?_); refine goesL_ (some 47) rfl rfl Try.func42 (by kernel_rfl) rfl #[.slice bA az.length bB, .slice bD ay.length bE] rfl wT ?_; (with_reducible refine (spec_l01Join.calls aj _ _ az _ _ ay av _ ?side1 ?side2 ?side3 ?side4 A1015.out).mono ?_); (case side1 => exact Ch ak); (case side2 => exact (Kd.R_reads' ak.out).2.1); (case side3 => exact Ch am); (case side4 => exact (Kd.R_reads' am.out).2.1); rintro e bP ⟨ce, rfl, al, hb⟩; refine ⟨_, rfl, ?_⟩; have an := Aside0.mk (Kd.R_lower (Kd.R_new' (Kd.R_new' (Kd.R_new' (Kd.R_new' al (Kd.R_lt (Rh af))) (Kd.R_lt (Rh ah))) (Kd.R_lt (Rh ak))) (Kd.R_lt (Rh am))) (below_size wB)); replace af := Aside0.mk (Kd.R_elder' (Rh af) (Kd.R_base al) hb); replace ah := Aside0.mk (Kd.R_elder' (Rh ah) (Kd.R_base al) hb); replace ak := Aside0.mk (Kd.R_elder' (Rh ak) (Kd.R_base al) hb); replace am := Aside0.mk (Kd.R_elder' (Rh am) (Kd.R_base al) hb); replace aa := Aside0.mk (blk_below (Bh aa) hb); replace HB := Aside0.mk (below_step wB hb); (try clear hb); (try clear hb2); (try clear hk); (try clear hi); (try clear al)))
 have n0_ := Aside0.mk (Kd.R_drew af.out)
 have n1_ := Aside0.mk (Kd.R_drew ah.out)
 have n2_ := Aside0.mk (Kd.R_drew ak.out)
 have n3_ := Aside0.mk (Kd.R_drew am.out)
 have n4_ := Aside0.mk (Kd.R_drew an.out)
 have n5_ := Aside0.mk (blk_drew aa.out)
 have n6_ := Aside0.mk (below_drew1 HB.out)
 clear af
 clear ah
 clear ak
 clear am
 clear an
 clear aa
 clear HB
 have af := n0_
 have ah := n1_
 have ak := n2_
 have am := n3_
 have an := n4_
 have aa := n5_
 have HB := n6_
 clear n0_ n1_ n2_ n3_ n4_ n5_ n6_
 refine start_ (n := 7) (S := fun w' => w'.cell? ⟨aA, 0, none⟩ = some (.int .i64 ai) ∧ w'.cell? ⟨aA, 1, none⟩ = some (.int .i64 ag) ∧ w'.cell? ⟨aA, 2, none⟩ = some (.slice A0_2 ad.length aO)) (ds := []) #[false, false, false, false, false, false, false] (by kernel_rfl) rfl rfl ⟨(blk_cell aa.out 0).trans rfl, (blk_cell aa.out 1).trans rfl, (blk_cell aa.out 2).trans rfl⟩ (fun hHeld => ?_)
 generalize bP.drew = b6 at af ah ak am an aa HB hHeld ⊢
 refine pure_ (i := 0) (N := some 48) (v := ?_) (a' := ?_) #[true, false, false, false, false, false, false] rfl rfl (by kernel_rfl) (fun _ _ _ h => h) (Or.inl ⟨by rfl, ?_⟩) ?_ ?_
 rotate_left
 {
 intro w'
 go_simp
 with_reducible rfl
 }
 rotate_left
 {
 simp only [Act.put, List.setIfInBounds_toArray, List.set_cons_zero, List.set_cons_succ, i64_w, i32_w]
 rfl
 }
 refine pure_ (i := 3) (N := some 51) (v := ?_) (a' := ?_) #[true, false, false, true, false, false, false] rfl rfl (by kernel_rfl) (fun _ _ _ h => h) (Or.inl ⟨by rfl, ?_⟩) ?_ ?_
 rotate_left
 {
 intro w'
 go_simp
 with_reducible rfl
 }
 rotate_left
 {
 simp only [Act.put, List.setIfInBounds_toArray, List.set_cons_zero, List.set_cons_succ, i64_w, i32_w]
 rfl
 }
 refine take_ (i := 4) (N := some 52) (v := ?_) (a' := ?_) #[true, false, false, true, true, false, false] rfl rfl (by kernel_rfl) (fun _ _ _ h => h) (Or.inl ⟨by rfl, ?_⟩) hHeld ?_ ?_
 rotate_left
 {
 rintro w' ⟨s0, s1, s2⟩
 go_simp
 with_reducible rfl
 }
 rotate_left
 {
 simp only [Act.put, List.setIfInBounds_toArray, List.set_cons_zero, List.set_cons_succ, i64_w, i32_w]
 rfl
 }
 refine one_ (i := 1) (N := some 49) #[true, true, false, true, true, false, false] rfl rfl (by kernel_rfl) (by decide) (fun K hK => ?_)
 refine Kd.R_lit_step (Kd.int .u8) _ 5 ?hg (N := 49) ?hd (xs := ([0, 0] : List Int)) (inner := [.int .u8 0, .int .u8 0]) (ok := fun _ => True) (okp := fun _ => True) ?hr ?hp (fun _ hk => hk) trivial (Below.refl _ _) (Nat.le_refl _) (by simp) ?_; (case hd => rfl); (case hg => rfl); (case hr => first | (go_simp; done) | (go_simp; rfl)); (case hp => exact (Reps.one (show Kd.M (Kd.int .u8) _ _ _ 0 [.int .u8 0] from rfl) (Reps.one (show Kd.M (Kd.int .u8) _ _ _ 0 [.int .u8 0] from rfl) (Reps.none _ _))))
 intro cf b7 ar hb hg_ hnew_
 clear hg_ hnew_
 (first | rw [← Ny201.out] at ar | (simp only [Int.reduceToNat] at ar; rw [← Ny201.out] at ar))
 have n0_ := Aside0.mk (Kd.R_elder' (Rh af) (Kd.R_base ar) hb)
 have n1_ := Aside0.mk (Kd.R_elder' (Rh ah) (Kd.R_base ar) hb)
 have n2_ := Aside0.mk (Kd.R_elder' (Rh ak) (Kd.R_base ar) hb)
 have n3_ := Aside0.mk (Kd.R_elder' (Rh am) (Kd.R_base ar) hb)
 have n4_ := Aside0.mk (Kd.R_elder' (Rh an) (Kd.R_base ar) hb)
 have n5_ := Aside0.mk (Kd.R_lower (Kd.R_new' (Kd.R_new' (Kd.R_new' (Kd.R_new' (Kd.R_new' ar (Kd.R_lt (Rh af))) (Kd.R_lt (Rh ah))) (Kd.R_lt (Rh ak))) (Kd.R_lt (Rh am))) (Kd.R_lt (Rh an))) (below_size wB))
 have n6_ := Aside0.mk (blk_below (Bh aa) hb)
 have n7_ := Aside0.mk (below_step wB hb)
 clear af
 clear ah
 clear ak
 clear am
 clear an
 clear aa
 clear HB
 have af := n0_
 have ah := n1_
 have ak := n2_
 have am := n3_
 have an := n4_
 have au := n5_
 have aa := n6_
 have HB := n7_
 clear n0_ n1_ n2_ n3_ n4_ n5_ n6_ n7_
 clear hb ar
 obtain ⟨bG, bH, bg⟩ := Kd.R_slice an.out
 (first | subst bg | (injection bg with f1_ f2_ f3_; have f4_ := f1_.symm; have f5_ := f3_.symm; clear f1_ f2_ f3_; subst f4_; subst f5_))
 obtain ⟨bI, bJ, bh⟩ := Kd.R_slice au.out
 (first | subst bh | (injection bh with f1_ f2_ f3_; have f4_ := f1_.symm; have f5_ := f3_.symm; clear f1_ f2_ f3_; subst f4_; subst f5_))
 refine hK.out _ _ ⟨(blk_cell aa.out 0).trans rfl, (blk_cell aa.out 1).trans rfl, (blk_cell aa.out 2).trans rfl⟩ (fun hHeld => ?_)
 clear hK K
 refine norm_ (a' := ?_) ?_ ?_
 rotate_left
 {
 show Act.put _ (some 49) _ = _
 simp only [Act.put, List.setIfInBounds_toArray, List.set_cons_zero, List.set_cons_succ, i64_w, i32_w]
 rfl
 }
 refine one_ (i := 2) (N := some 50) #[true, true, true, true, true, false, false] rfl rfl (by kernel_rfl) (by decide) (fun K hK => ?_)
 refine goes_ Try.func42 (by kernel_rfl) rfl #[.slice bG av.length bH, .slice bI bo.length bJ] (by rfl) rfl rfl wT ?_
 with_reducible refine (spec_l01Join.calls aj _ _ av _ _ bo ap _ ?side1 ?side2 ?side3 ?side4 A1016.out).mono ?_
 (case side1 => exact Ch an)
 (case side2 => exact (Kd.R_reads' an.out).2.1)
 (case side3 => exact Ch au)
 (case side4 => exact (Kd.R_reads' au.out).2.1)
 rintro e b8 ⟨cg, rfl, al, hb⟩
 refine ⟨_, rfl, ?_⟩
 have n0_ := Aside0.mk (Kd.R_elder' (Rh af) (Kd.R_base al) hb)
 have n1_ := Aside0.mk (Kd.R_elder' (Rh ah) (Kd.R_base al) hb)
 have n2_ := Aside0.mk (Kd.R_elder' (Rh ak) (Kd.R_base al) hb)
 have n3_ := Aside0.mk (Kd.R_elder' (Rh am) (Kd.R_base al) hb)
 have n4_ := Aside0.mk (Kd.R_elder' (Rh an) (Kd.R_base al) hb)
 have n5_ := Aside0.mk (Kd.R_elder' (Rh au) (Kd.R_base al) hb)
 have n6_ := Aside0.mk (Kd.R_lower (Kd.R_new' (Kd.R_new' (Kd.R_new' (Kd.R_new' (Kd.R_new' (Kd.R_new' al (Kd.R_lt (Rh af))) (Kd.R_lt (Rh ah))) (Kd.R_lt (Rh ak))) (Kd.R_lt (Rh am))) (Kd.R_lt (Rh an))) (Kd.R_lt (Rh au))) (below_size wB))
 have n7_ := Aside0.mk (blk_below (Bh aa) hb)
 have n8_ := Aside0.mk (below_step wB hb)
 clear af
 clear ah
 clear ak
 clear am
 clear an
 clear au
 clear aa
 clear HB
 have af := n0_
 have ah := n1_
 have ak := n2_
 have am := n3_
 have an := n4_
 have au := n5_
 have aB := n6_
 have aa := n7_
 have HB := n8_
 clear n0_ n1_ n2_ n3_ n4_ n5_ n6_ n7_ n8_
 (try clear hb)
 (try clear hb2)
 (try clear hk)
 (try clear hi)
 (try clear al)
 obtain ⟨bK, bL, bi⟩ := Kd.R_slice aB.out
 (first | subst bi | (injection bi with f1_ f2_ f3_; have f4_ := f1_.symm; have f5_ := f3_.symm; clear f1_ f2_ f3_; subst f4_; subst f5_))
 refine hK.out _ _ ⟨(blk_cell aa.out 0).trans rfl, (blk_cell aa.out 1).trans rfl, (blk_cell aa.out 2).trans rfl⟩ (fun hHeld => ?_)
 clear hK K
 refine norm_ (a' := ?_) ?_ ?_
 rotate_left
 {
 show Act.put _ (some 50) _ = _
 simp only [Act.put, List.setIfInBounds_toArray, List.set_cons_zero, List.set_cons_succ, i64_w, i32_w]
 rfl
 }
 refine one_ (i := 5) (N := some 53) #[true, true, true, true, true, true, false] rfl rfl (by kernel_rfl) (by decide) (fun K hK => ?_)
 refine goes_ Try.func42 (by kernel_rfl) rfl #[.slice bK ap.length bL, .slice A0_2 ad.length aO] (by rfl) rfl rfl wT ?_
 with_reducible refine (spec_l01Join.calls aj _ _ ap _ _ ad ab _ ?side1 ?side2 ?side3 ?side4 A1017.out).mono ?_
 (case side1 => exact Ch aB)
 (case side2 => exact (Kd.R_reads' aB.out).2.1)
 (case side3 => exact Kd.C_below HR0_2.out wB)
 (case side4 => exact bN.out)
 rintro e b9 ⟨ch, rfl, al, hb⟩
 refine ⟨_, rfl, ?_⟩
 have n0_ := Aside0.mk (Kd.R_elder' (Rh af) (Kd.R_base al) hb)
 have n1_ := Aside0.mk (Kd.R_elder' (Rh ah) (Kd.R_base al) hb)
 have n2_ := Aside0.mk (Kd.R_elder' (Rh ak) (Kd.R_base al) hb)
 have n3_ := Aside0.mk (Kd.R_elder' (Rh am) (Kd.R_base al) hb)
 have n4_ := Aside0.mk (Kd.R_elder' (Rh an) (Kd.R_base al) hb)
 have n5_ := Aside0.mk (Kd.R_elder' (Rh au) (Kd.R_base al) hb)
 have n6_ := Aside0.mk (Kd.R_elder' (Rh aB) (Kd.R_base al) hb)
 have n7_ := Aside0.mk (Kd.R_lower (Kd.R_new' (Kd.R_new' (Kd.R_new' (Kd.R_new' (Kd.R_new' (Kd.R_new' (Kd.R_new' al (Kd.R_lt (Rh af))) (Kd.R_lt (Rh ah))) (Kd.R_lt (Rh ak))) (Kd.R_lt (Rh am))) (Kd.R_lt (Rh an))) (Kd.R_lt (Rh au))) (Kd.R_lt (Rh aB))) (below_size wB))
 have n8_ := Aside0.mk (blk_below (Bh aa) hb)
 have n9_ := Aside0.mk (below_step wB hb)
 clear af
 clear ah
 clear ak
 clear am
 clear an
 clear au
 clear aB
 clear aa
 clear HB
 have af := n0_
 have ah := n1_
 have ak := n2_
 have am := n3_
 have an := n4_
 have au := n5_
 have aB := n6_
 have ac := n7_
 have aa := n8_
 have HB := n9_
 clear n0_ n1_ n2_ n3_ n4_ n5_ n6_ n7_ n8_ n9_
 (try clear hb)
 (try clear hb2)
 (try clear hk)
 (try clear hi)
 (try clear al)
 refine hK.out _ _ ⟨(blk_cell aa.out 0).trans rfl, (blk_cell aa.out 1).trans rfl, (blk_cell aa.out 2).trans rfl⟩ (fun hHeld => ?_)
 clear hK K
 refine norm_ (a' := ?_) ?_ ?_
 rotate_left
 {
 show Act.put _ (some 53) _ = _
 simp only [Act.put, List.setIfInBounds_toArray, List.set_cons_zero, List.set_cons_succ, i64_w, i32_w]
 rfl
 }
 refine pure_ (i := 6) (N := some 8) (v := ?_) (a' := ?_) #[true, true, true, true, true, true, true] rfl rfl (by kernel_rfl) (fun _ _ _ h => h) (Or.inl ⟨by rfl, ?_⟩) ?_ ?_
 rotate_left
 {
 intro w'
 go_simp
 with_reducible rfl
 }
 rotate_left
 {
 simp only [Act.put, List.setIfInBounds_toArray, List.set_cons_zero, List.set_cons_succ, i64_w, i32_w]
 rfl
 }
 refine done_ (by kernel_rfl) ?_
 have n_ := Aside0.mk (Kd.R_mono (ok' := (fun _ => True)) ac.out (fun k_ hk => trivial))
 clear ac
 have ac := n_
 clear n_
 (try clear af)
 (try clear ah)
 (try clear ak)
 (try clear am)
 (try clear an)
 (try clear au)
 (try clear aB)
 obtain ⟨bj, aC, bM⟩ := Kd.R_slice ac.out
 subst bM
 )
 {
 try go_wp2_with (first | ((with_reducible refine gate_callee (f := 24) rfl ?_); refine goesL_ (some 57) rfl rfl Try.func24 (by kernel_rfl) rfl #[.slice bj ab.length aC, .int .i64 a1, .int .i64 a2, .int .i64 17] rfl wT ?_; (with_reducible refine (spec_l10Sum.calls aj _ _ ab a1 a2 17 ae _ ?side1 ?side2 A1018.out).mono ?_); (case side1 => exact Ch ac); (case side2 => exact (Kd.R_reads' ac.out).2.1); rintro e aw ⟨rfl, hb⟩; refine ⟨_, rfl, ?_⟩; replace ac := Aside0.mk (Kd.R_below (Rh ac) hb); replace aa := Aside0.mk (blk_below (Bh aa) hb); replace HB := Aside0.mk (below_step wB hb); (try clear hb); (try clear hb2); (try clear hk); (try clear hi); have p1021 : 0 ≤ (6 : Int) := (by omega); have q1021 : (6 : Int) < ((ab.length : Int) : Int) := of_decide_eq_true (by first | (with_reducible assumption) | assumption); have qi1021 : (6 < ab.length) = True := eq_true (by omega); obtain ⟨go1021, bX, bk, bl, gl1021, cl1021, HG1021⟩ := Kd.R_form ac.out (by omega); (first | cases bk | (injection bk with ea_ en_ ec_; (first | subst ea_ | (injection ea_ with ea_; subst ea_)); subst ec_; clear en_)); have GB1021 := Aside0.mk bl; have GG1021 := Aside0.mk HG1021; clear bl gl1021 HG1021; obtain ⟨hx1021_0, hf1021_0⟩ := Kd.R_celln 0 ac.out (6 : Int) p1021 q1021; (try rw [show ((6 : Int)).toNat = 6 from rfl] at hx1021_0); (try simp only [Nat.reduceMul, Nat.zero_mul, Nat.zero_add, Nat.reduceAdd] at hx1021_0); (try rw [show ((6 : Int)).toNat = 6 from rfl] at hf1021_0); (try simp only [Nat.reduceMul, Nat.zero_mul, Nat.zero_add, Nat.reduceAdd] at hf1021_0); replace p1021 := eq_true p1021; replace q1021 := eq_true q1021; obtain ⟨hy2023_, hz2023_⟩ := Kd.R_celln 0 ac.out (6 : Int) (by omega) (of_decide_eq_true (by first | (with_reducible assumption) | assumption)); (try simp only [Int.reduceToNat, Int.toNat_zero, Int.toNat_ofNat, Nat.reduceMul, Nat.zero_mul, Nat.zero_add] at hy2023_ hz2023_); (try rw [show ((6 : Int)).toNat = 6 from rfl] at hy2023_); (try rw [show ((6 : Int)).toNat = 6 from rfl] at hz2023_); have HP2023 := Kd.R_putg ac.out (6 : Int) (65535 / 256)) | ((with_reducible refine gate_store (t := 5) (p := 64) rfl ?_); (try (rw [drewN_self aw]; generalize hq_ : World.drewN aw _ = aw; replace ac := Aside0.mk (Kd.R_at hq_ ac.out); replace aa := Aside0.mk (blk_at hq_ aa.out); replace HB := Aside0.mk (below_at hq_ HB.out); clear hq_; (try (obtain ⟨⟨aE, aF, aG⟩, aH, aI, aJ⟩ := cells3 aa.out)); (try (obtain ⟨hy2023_, hz2023_⟩ := Kd.R_celln 0 ac.out (6 : Int) (by omega) (of_decide_eq_true (by first | (with_reducible assumption) | assumption)))); (try (try simp only [Int.reduceToNat, Int.toNat_zero, Int.toNat_ofNat, Nat.reduceMul, Nat.zero_mul, Nat.zero_add] at hy2023_ hz2023_)); (try (try rw [show ((6 : Int)).toNat = 6 from rfl] at hy2023_)); (try (try rw [show ((6 : Int)).toNat = 6 from rfl] at hz2023_)); (try (have HP2023 := Kd.R_putg ac.out (6 : Int) (65535 / 256))))); refine store_event (t := 5) (p := 64) (v := ?_) (w1 := (aw.setCell ⟨go1021, (6 : Int).toNat, none⟩ (.int .u8 (65535 / 256)))) ?hg ?ho ?hn ?hr ?_; (case ho => rfl); (case hg => rfl); (case hn => rfl); (case hr => first | (go_simp; done) | (go_simp; rfl)); intro ao hw; have hg : aw.grownBy ao (some go1021) := (by rw [hw]; exact HP2023.2); have hp_ : Kd.R (Kd.int .u8) 5 ao w.heap.size (fun _ => True) (.slice (some ⟨go1021, 0, none⟩) ab.length aC) bp := (by rw [hw, Ny211.out]; exact HP2023.1); clear HP2023; replace aa := Aside0.mk (blk_grown (Bh aa) hg (Kd.R_ne ac.out aa.out (by decide))); replace ac := Aside0.mk (hp_); replace HB := Aside0.mk ((by rw [hw]; exact below_set (HB.out) GB1021.out : Below w.heap.size w ao)); clear hg hw hp_; have p1023 : 0 ≤ (7 : Int) := (by omega); have q1023 : (7 : Int) < ((ab.length : Int) : Int) := of_decide_eq_true (by first | (with_reducible assumption) | assumption); have qi1023 : (7 < ab.length) = True := eq_true (by omega); obtain ⟨hx1023_0, hf1023_0⟩ := Kd.R_celln 0 ac.out (7 : Int) p1023 q1023; (try rw [show ((7 : Int)).toNat = 7 from rfl] at hx1023_0); (try simp only [Nat.reduceMul, Nat.zero_mul, Nat.zero_add, Nat.reduceAdd] at hx1023_0); (try rw [show ((7 : Int)).toNat = 7 from rfl] at hf1023_0); (try simp only [Nat.reduceMul, Nat.zero_mul, Nat.zero_add, Nat.reduceAdd] at hf1023_0); replace p1023 := eq_true p1023; replace q1023 := eq_true q1023; obtain ⟨hy2025_, hz2025_⟩ := Kd.R_celln 0 ac.out (7 : Int) (by omega) (of_decide_eq_true (by first | (with_reducible assumption) | assumption)); (try simp only [Int.reduceToNat, Int.toNat_zero, Int.toNat_ofNat, Nat.reduceMul, Nat.zero_mul, Nat.zero_add] at hy2025_ hz2025_); (try rw [show ((7 : Int)).toNat = 7 from rfl] at hy2025_); (try rw [show ((7 : Int)).toNat = 7 from rfl] at hz2025_); have HP2025 := Kd.R_putg ac.out (7 : Int) ((65535) % 256)) | ((with_reducible refine gate_store (t := 5) (p := 68) rfl ?_); (try (rw [drewN_self ao]; generalize hq_ : World.drewN ao _ = ao; replace ac := Aside0.mk (Kd.R_at hq_ ac.out); replace aa := Aside0.mk (blk_at hq_ aa.out); replace HB := Aside0.mk (below_at hq_ HB.out); clear hq_; (try (obtain ⟨⟨aE, aF, aG⟩, aH, aI, aJ⟩ := cells3 aa.out)); (try (obtain ⟨hy2025_, hz2025_⟩ := Kd.R_celln 0 ac.out (7 : Int) (by omega) (of_decide_eq_true (by first | (with_reducible assumption) | assumption)))); (try (try simp only [Int.reduceToNat, Int.toNat_zero, Int.toNat_ofNat, Nat.reduceMul, Nat.zero_mul, Nat.zero_add] at hy2025_ hz2025_)); (try (try rw [show ((7 : Int)).toNat = 7 from rfl] at hy2025_)); (try (try rw [show ((7 : Int)).toNat = 7 from rfl] at hz2025_)); (try (have HP2025 := Kd.R_putg ac.out (7 : Int) ((65535) % 256))))); refine store_event (t := 5) (p := 68) (v := ?_) (w1 := (ao.setCell ⟨go1021, (7 : Int).toNat, none⟩ (.int .u8 ((65535) % 256)))) ?hg ?ho ?hn ?hr ?_; (case ho => rfl); (case hg => rfl); (case hn => rfl); (case hr => first | (go_simp; done) | (go_simp; rfl)); intro aK hw; have hg : ao.grownBy aK (some go1021) := (by rw [hw]; exact HP2025.2); have hp_ : Kd.R (Kd.int .u8) 5 aK w.heap.size (fun _ => True) (.slice (some ⟨go1021, 0, none⟩) ab.length aC) bs := (by rw [hw, Ny212.out]; exact HP2025.1); clear HP2025; replace aa := Aside0.mk (blk_grown (Bh aa) hg (Kd.R_ne ac.out aa.out (by decide))); replace ac := Aside0.mk (hp_); replace HB := Aside0.mk ((by rw [hw]; exact below_set (HB.out) GB1021.out : Below w.heap.size w aK)); clear hg hw hp_))
 go_ret2
 exact ⟨_, by first | rfl | (simp [errW_none, errW_some] <;> rfl) | (simp [*, errW_none, errW_some] <;> rfl), by (with_reducible repeat (first | apply Kd.R_alloc | apply Kd.R_drewN | apply Kd.R_drew)); exact ac.out, wB⟩
 }
 {
 try go_wp2_with (first | ((with_reducible refine gate_callee (f := 24) rfl ?_); refine goesL_ (some 57) rfl rfl Try.func24 (by kernel_rfl) rfl #[.slice bj ab.length aC, .int .i64 a1, .int .i64 a2, .int .i64 17] rfl wT ?_; (with_reducible refine (spec_l10Sum.calls aj _ _ ab a1 a2 17 ae _ ?side1 ?side2 A1018.out).mono ?_); (case side1 => exact Ch ac); (case side2 => exact (Kd.R_reads' ac.out).2.1); rintro e aw ⟨rfl, hb⟩; refine ⟨_, rfl, ?_⟩; replace ac := Aside0.mk (Kd.R_below (Rh ac) hb); replace aa := Aside0.mk (blk_below (Bh aa) hb); replace HB := Aside0.mk (below_step wB hb); (try clear hb); (try clear hb2); (try clear hk); (try clear hi); have p1025 : 0 ≤ (6 : Int) := (by omega); have q1025 : (6 : Int) < ((ab.length : Int) : Int) := of_decide_eq_true (by first | (with_reducible assumption) | assumption); have qi1025 : (6 < ab.length) = True := eq_true (by omega); obtain ⟨go1025, bY, bm, bn, gl1025, cl1025, HG1025⟩ := Kd.R_form ac.out (by omega); (first | cases bm | (injection bm with ea_ en_ ec_; (first | subst ea_ | (injection ea_ with ea_; subst ea_)); subst ec_; clear en_)); have GB1025 := Aside0.mk bn; have GG1025 := Aside0.mk HG1025; clear bn gl1025 HG1025; obtain ⟨hx1025_0, hf1025_0⟩ := Kd.R_celln 0 ac.out (6 : Int) p1025 q1025; (try rw [show ((6 : Int)).toNat = 6 from rfl] at hx1025_0); (try simp only [Nat.reduceMul, Nat.zero_mul, Nat.zero_add, Nat.reduceAdd] at hx1025_0); (try rw [show ((6 : Int)).toNat = 6 from rfl] at hf1025_0); (try simp only [Nat.reduceMul, Nat.zero_mul, Nat.zero_add, Nat.reduceAdd] at hf1025_0); replace p1025 := eq_true p1025; replace q1025 := eq_true q1025; obtain ⟨hy2023_, hz2023_⟩ := Kd.R_celln 0 ac.out (6 : Int) (by omega) (of_decide_eq_true (by first | (with_reducible assumption) | assumption)); (try simp only [Int.reduceToNat, Int.toNat_zero, Int.toNat_ofNat, Nat.reduceMul, Nat.zero_mul, Nat.zero_add] at hy2023_ hz2023_); (try rw [show ((6 : Int)).toNat = 6 from rfl] at hy2023_); (try rw [show ((6 : Int)).toNat = 6 from rfl] at hz2023_); have HP2023 := Kd.R_putg ac.out (6 : Int) ((ae / 256) % 256)) | ((with_reducible refine gate_store (t := 5) (p := 64) rfl ?_); (try (rw [drewN_self aw]; generalize hq_ : World.drewN aw _ = aw; replace ac := Aside0.mk (Kd.R_at hq_ ac.out); replace aa := Aside0.mk (blk_at hq_ aa.out); replace HB := Aside0.mk (below_at hq_ HB.out); clear hq_; (try (obtain ⟨⟨aE, aF, aG⟩, aH, aI, aJ⟩ := cells3 aa.out)); (try (obtain ⟨hy2023_, hz2023_⟩ := Kd.R_celln 0 ac.out (6 : Int) (by omega) (of_decide_eq_true (by first | (with_reducible assumption) | assumption)))); (try (try simp only [Int.reduceToNat, Int.toNat_zero, Int.toNat_ofNat, Nat.reduceMul, Nat.zero_mul, Nat.zero_add] at hy2023_ hz2023_)); (try (try rw [show ((6 : Int)).toNat = 6 from rfl] at hy2023_)); (try (try rw [show ((6 : Int)).toNat = 6 from rfl] at hz2023_)); (try (have HP2023 := Kd.R_putg ac.out (6 : Int) ((ae / 256) % 256))))); refine store_event (t := 5) (p := 64) (v := ?_) (w1 := (aw.setCell ⟨go1025, (6 : Int).toNat, none⟩ (.int .u8 ((ae / 256) % 256)))) ?hg ?ho ?hn ?hr ?_; (case ho => rfl); (case hg => rfl); (case hn => rfl); (case hr => first | (go_simp; done) | (go_simp; rfl)); intro ao hw; have hg : aw.grownBy ao (some go1025) := (by rw [hw]; exact HP2023.2); have hp_ : Kd.R (Kd.int .u8) 5 ao w.heap.size (fun _ => True) (.slice (some ⟨go1025, 0, none⟩) ab.length aC) bq := (by rw [hw, Ny213.out]; exact HP2023.1); clear HP2023; replace aa := Aside0.mk (blk_grown (Bh aa) hg (Kd.R_ne ac.out aa.out (by decide))); replace ac := Aside0.mk (hp_); replace HB := Aside0.mk ((by rw [hw]; exact below_set (HB.out) GB1025.out : Below w.heap.size w ao)); clear hg hw hp_; have p1027 : 0 ≤ (7 : Int) := (by omega); have q1027 : (7 : Int) < ((ab.length : Int) : Int) := of_decide_eq_true (by first | (with_reducible assumption) | assumption); have qi1027 : (7 < ab.length) = True := eq_true (by omega); obtain ⟨hx1027_0, hf1027_0⟩ := Kd.R_celln 0 ac.out (7 : Int) p1027 q1027; (try rw [show ((7 : Int)).toNat = 7 from rfl] at hx1027_0); (try simp only [Nat.reduceMul, Nat.zero_mul, Nat.zero_add, Nat.reduceAdd] at hx1027_0); (try rw [show ((7 : Int)).toNat = 7 from rfl] at hf1027_0); (try simp only [Nat.reduceMul, Nat.zero_mul, Nat.zero_add, Nat.reduceAdd] at hf1027_0); replace p1027 := eq_true p1027; replace q1027 := eq_true q1027; obtain ⟨hy2025_, hz2025_⟩ := Kd.R_celln 0 ac.out (7 : Int) (by omega) (of_decide_eq_true (by first | (with_reducible assumption) | assumption)); (try simp only [Int.reduceToNat, Int.toNat_zero, Int.toNat_ofNat, Nat.reduceMul, Nat.zero_mul, Nat.zero_add] at hy2025_ hz2025_); (try rw [show ((7 : Int)).toNat = 7 from rfl] at hy2025_); (try rw [show ((7 : Int)).toNat = 7 from rfl] at hz2025_); have HP2025 := Kd.R_putg ac.out (7 : Int) ((ae) % 256)) | ((with_reducible refine gate_store (t := 5) (p := 68) rfl ?_); (try (rw [drewN_self ao]; generalize hq_ : World.drewN ao _ = ao; replace ac := Aside0.mk (Kd.R_at hq_ ac.out); replace aa := Aside0.mk (blk_at hq_ aa.out); replace HB := Aside0.mk (below_at hq_ HB.out); clear hq_; (try (obtain ⟨⟨aE, aF, aG⟩, aH, aI, aJ⟩ := cells3 aa.out)); (try (obtain ⟨hy2025_, hz2025_⟩ := Kd.R_celln 0 ac.out (7 : Int) (by omega) (of_decide_eq_true (by first | (with_reducible assumption) | assumption)))); (try (try simp only [Int.reduceToNat, Int.toNat_zero, Int.toNat_ofNat, Nat.reduceMul, Nat.zero_mul, Nat.zero_add] at hy2025_ hz2025_)); (try (try rw [show ((7 : Int)).toNat = 7 from rfl] at hy2025_)); (try (try rw [show ((7 : Int)).toNat = 7 from rfl] at hz2025_)); (try (have HP2025 := Kd.R_putg ac.out (7 : Int) ((ae) % 256))))); refine store_event (t := 5) (p := 68) (v := ?_) (w1 := (ao.setCell ⟨go1025, (7 : Int).toNat, none⟩ (.int .u8 ((ae) % 256)))) ?hg ?ho ?hn ?hr ?_; (case ho => rfl); (case hg => rfl); (case hn => rfl); (case hr => first | (go_simp; done) | (go_simp; rfl)); intro aK hw; have hg : ao.grownBy aK (some go1025) := (by rw [hw]; exact HP2025.2); have hp_ : Kd.R (Kd.int .u8) 5 aK w.heap.size (fun _ => True) (.slice (some ⟨go1025, 0, none⟩) ab.length aC) bu := (by rw [hw, Ny214.out]; exact HP2025.1); clear HP2025; replace aa := Aside0.mk (blk_grown (Bh aa) hg (Kd.R_ne ac.out aa.out (by decide))); replace ac := Aside0.mk (hp_); replace HB := Aside0.mk ((by rw [hw]; exact below_set (HB.out) GB1025.out : Below w.heap.size w aK)); clear hg hw hp_))
 go_ret2
 exact ⟨_, by first | rfl | (simp [errW_none, errW_some] <;> rfl) | (simp [*, errW_none, errW_some] <;> rfl), by (with_reducible repeat (first | apply Kd.R_alloc | apply Kd.R_drewN | apply Kd.R_drew)); exact ac.out, wB⟩
 }
 }
 )

end Go.Proofs.Ytfllcmeakcbiaaa.PFnOneBit
