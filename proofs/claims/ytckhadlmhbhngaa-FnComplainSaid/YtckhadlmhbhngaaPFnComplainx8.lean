-- Written for this claim by a program of this session (wip/mkprint.py: the print, turned at a few places). Not trusted: Lean checks it.
import Derived.Test.YtckhadlmhbhngaaPFnComplainx0
import Derived.Test.YtckhadlmhbhngaaPFnComplainx5
import Derived.Test.YtckhadlmhbhngaaPFnComplainx7
namespace Go.Proofs.Ytckhadlmhbhngaa.PFnComplain
open Go.RowKit Go.Proofs.YtckhadlmhbhngaaW.PrintWords Go.Proofs.YtckhadlmhbhngaaW.PrintLast Go.Proofs.YtckhadlmhbhngaaW.PrintMore
attribute [local go_sem] max2_int min2_int max_two min_two max_three min_three max_four min_four   -- for this text's walks alone
set_option linter.unusedVariables false
set_option linter.unusedSimpArgs false

/-! ### spec_l02Wide: function 75 -/
def spec_l02Wide.f (s0_0 : List Int) (s0_1 : Int) (s0_2 : Int) : Option (Int × Int × Int) := (spec_l01Next.f s0_0 s0_1 s0_2 65536).bind fun bt215 => ((spec_l01Next.f s0_0 bt215.2.1 bt215.2.2 65536).bind fun bt218 => (some (wrap64 ((wrap64 (bt215.1 * 65536)) + bt218.1), bt218.2.1, bt218.2.2)))
set_option maxHeartbeats 60000000 in
set_option maxRecDepth 100000 in
theorem spec_l02Wide.calls (g : Nat) (ab : List Int) (ac : Int) (ad : Int) (r1 : Int) (r2 : Int) (r3 : Int) (w0 w : World) (hI : IsS61 w0 w g ab ac ad) (hB : Below w0.heap.size w0 w) (h : spec_l02Wide.f ab ac ad = some (r1, r2, r3)) :
 Calls Try.prog 75 #[.pointer (some ⟨g, 0, none⟩)] w fun e w' => e = .returned (.int .i64 r1) ∧ IsS61 w0 w' g ab r2 r3 ∧ Below w0.heap.size w0 w' ∧ KeepBut w w' g none := by
 have aa := Aside0.mk hI
 have HK := Aside0.mk (KeepBut.refl w g none)
 have HL := Aside0.mk hB.size
 clear hI
 have HW0 := Aside0.mk hB.size
 have HB := Aside0.mk hB
 clear hB
 have H : ((spec_l01Next.f ab ac ad 65536).bind fun ae => ((spec_l01Next.f ab ae.2.1 ae.2.2 65536).bind fun af => (some (wrap64 ((wrap64 (ae.1 * 65536)) + af.1), af.2.1, af.2.2)))) = some (r1, r2, r3) := h
 clear h
 replace H := Option.bind_eq_some_iff.mp H
 obtain ⟨⟨ai, ag, ah⟩, A20, H⟩ := H
 try dsimp only at H
 have A2 := Aside0.mk A20
 clear A20
 replace H := Option.bind_eq_some_iff.mp H
 obtain ⟨⟨aj, ak, al⟩, A30, H⟩ := H
 try dsimp only at H
 have A3 := Aside0.mk A30
 clear A30
 simp only [Option.some.injEq, Prod.mk.injEq] at H
 obtain ⟨rfl, rfl, rfl⟩ := H
 go_enter Try.func75, Try.ntmps75
 go_wp2_with (first | ((with_reducible refine gate_callee (f := 30) rfl ?_); refine gL (some 4) Try.func30 #[.pointer (some ⟨g, 0, none⟩), .int .i64 65536] ?_; (with_reducible refine (spec_l01Next.calls g ab ac ad 65536 ai ag ah w0 _ ?side1 ?side2 A2.out).mono ?_); (case side1 => exact iS61 aa); (case side2 => repeat (first | (with_reducible first | exact HB.out | apply below_alloc | apply pw_below_drewN | apply below_drew1 | refine below_set ?_ (IsS61.ge aa.out)) | exact HB.out)); rintro e am ⟨rfl, hi, hb, hk⟩; refine ⟨_, rfl, ?_⟩; have n0_ := Aside0.mk (KeepBut.trans (by repeat (first | (with_reducible first | exact HK.out | apply KeepBut.set_ | apply keep_drewN | apply keep_drew | apply keep_alloc) | exact HK.out)) hk (.inl rfl)); have n1_ := Aside0.mk (hb); have n2_ := Aside0.mk (hi); clear HK; clear HB; clear aa; have HK := n0_; have HB := n1_; have aa := n2_; clear n0_ n1_ n2_; clear hb hk hi) | ((with_reducible refine gate_callee (f := 30) rfl ?_); refine gL (some 7) Try.func30 #[.pointer (some ⟨g, 0, none⟩), .int .i64 65536] ?_; (with_reducible refine (spec_l01Next.calls g ab ag ah 65536 aj ak al w0 _ ?side1 ?side2 A3.out).mono ?_); (case side1 => exact iS61 aa); (case side2 => repeat (first | (with_reducible first | exact HB.out | apply below_alloc | apply pw_below_drewN | apply below_drew1 | refine below_set ?_ (IsS61.ge aa.out)) | exact HB.out)); rintro e an ⟨rfl, hi, hb, hk⟩; refine ⟨_, rfl, ?_⟩; have n0_ := Aside0.mk (KeepBut.trans (by repeat (first | (with_reducible first | exact HK.out | apply KeepBut.set_ | apply keep_drewN | apply keep_drew | apply keep_alloc) | exact HK.out)) hk (.inl rfl)); have n1_ := Aside0.mk (hb); have n2_ := Aside0.mk (hi); clear HK; clear HB; clear aa; have HK := n0_; have HB := n1_; have aa := n2_; clear n0_ n1_ n2_; clear hb hk hi))
 go_ret
 exact ⟨eR, by exact iS61 aa, by repeat (first | (with_reducible first | exact HB.out | apply below_alloc | apply pw_below_drewN | apply below_drew1 | refine below_set ?_ (IsS61.ge aa.out)) | exact HB.out), by repeat (first | (with_reducible first | exact HK.out | apply KeepBut.set_ | apply keep_drewN | apply keep_drew | apply keep_alloc) | exact HK.out)⟩

/-! ### spec_l02Addr: function 47 -/
def spec_l02Addr.f (ac : List Int) (ag : Int) (ah : Int) : Option (Int × Int × Int) := (spec_l01Next.f ac ag ah 8).bind fun aa => (if aa.1 = 0 then ((spec_l02Wide.f ac aa.2.1 aa.2.2).bind fun ad => (some (ad.1, ad.2.1, ad.2.2))) else (if aa.1 = 1 then ((some (([0, 4294967295, 2130706433, 3758096389, 4026531840, 167772415, (-1), 4294967296, 3758096384, 4026531839] : List Int) : List Int)).bind fun af => ((spec_l01Next.f ac aa.2.1 aa.2.2 10).bind fun ab => (if 0 ≤ ab.1 then (if ab.1 < (af.length : Int) then (some (rd af ab.1, ab.2.1, ab.2.2)) else (none)) else (none)))) else ((spec_l01Next.f ac aa.2.1 aa.2.2 6).bind fun ae => (some (wrap64 (167772161 + ae.1), ae.2.1, ae.2.2)))))
set_option maxHeartbeats 60000000 in
set_option maxRecDepth 100000 in
theorem spec_l02Addr.calls (g : Nat) (ab : List Int) (am : Int) (an : Int) (r1 : Int) (r2 : Int) (r3 : Int) (w0 w : World) (hI : IsS61 w0 w g ab am an) (hB : Below w0.heap.size w0 w) (h : spec_l02Addr.f ab am an = some (r1, r2, r3)) :
 Calls Try.prog 47 #[.pointer (some ⟨g, 0, none⟩)] w fun e w' => e = .returned (.int .i64 r1) ∧ IsS61 w0 w' g ab r2 r3 ∧ Below w0.heap.size w0 w' ∧ KeepBut w w' g none := by
 have aa := Aside0.mk hI
 have HK := Aside0.mk (KeepBut.refl w g none)
 have HL := Aside0.mk hB.size
 clear hI
 have HW0 := Aside0.mk hB.size
 have HB := Aside0.mk hB
 clear hB
 have H : ((spec_l01Next.f ab am an 8).bind fun ae => (if ae.1 = 0 then ((spec_l02Wide.f ab ae.2.1 ae.2.2).bind fun ao => (some (ao.1, ao.2.1, ao.2.2))) else (if ae.1 = 1 then ((some (([0, 4294967295, 2130706433, 3758096389, 4026531840, 167772415, (-1), 4294967296, 3758096384, 4026531839] : List Int) : List Int)).bind fun af => ((spec_l01Next.f ab ae.2.1 ae.2.2 10).bind fun ac => (if 0 ≤ ac.1 then (if ac.1 < (af.length : Int) then (some (rd af ac.1, ac.2.1, ac.2.2)) else (none)) else (none)))) else ((spec_l01Next.f ab ae.2.1 ae.2.2 6).bind fun ap => (some (wrap64 (167772161 + ap.1), ap.2.1, ap.2.2)))))) = some (r1, r2, r3) := h
 clear h
 replace H := Option.bind_eq_some_iff.mp H
 obtain ⟨⟨ad, ai, aj⟩, A20, H⟩ := H
 try dsimp only at H
 have A2 := Aside0.mk A20
 clear A20
 by_cases c3 : ad = 0
 {
 rw [if_pos c3] at H
 have c3b0 : (ad == 0) = true := beq_iff_eq.mpr c3
 have c3b1 : (ad != 0) = false := bne_eq_false_iff_eq.mpr c3
 clear c3
 replace H := Option.bind_eq_some_iff.mp H
 obtain ⟨⟨av, aw, ax⟩, A40, H⟩ := H
 try dsimp only at H
 have A4 := Aside0.mk A40
 clear A40
 simp only [Option.some.injEq, Prod.mk.injEq] at H
 obtain ⟨rfl, rfl, rfl⟩ := H
 go_enter Try.func47, Try.ntmps47
 go_wp2_with (first | ((with_reducible refine gate_callee (f := 30) rfl ?_); refine gL (some 4) Try.func30 #[.pointer (some ⟨g, 0, none⟩), .int .i64 8] ?_; (with_reducible refine (spec_l01Next.calls g ab am an 8 ad ai aj w0 _ ?side1 ?side2 A2.out).mono ?_); (case side1 => exact iS61 aa); (case side2 => repeat (first | (with_reducible first | exact HB.out | apply below_alloc | apply pw_below_drewN | apply below_drew1 | refine below_set ?_ (IsS61.ge aa.out)) | exact HB.out)); rintro e aq ⟨rfl, hi, hb, hk⟩; refine ⟨_, rfl, ?_⟩; have n0_ := Aside0.mk (KeepBut.trans (by repeat (first | (with_reducible first | exact HK.out | apply KeepBut.set_ | apply keep_drewN | apply keep_drew | apply keep_alloc) | exact HK.out)) hk (.inl rfl)); have n1_ := Aside0.mk (hb); have n2_ := Aside0.mk (hi); clear HK; clear HB; clear aa; have HK := n0_; have HB := n1_; have aa := n2_; clear n0_ n1_ n2_; clear hb hk hi) | ((with_reducible refine gate_callee (f := 75) rfl ?_); refine gL (some 8) Try.func75 #[.pointer (some ⟨g, 0, none⟩)] ?_; (with_reducible refine (spec_l02Wide.calls g ab ai aj av aw ax w0 _ ?side1 ?side2 A4.out).mono ?_); (case side1 => exact iS61 aa); (case side2 => repeat (first | (with_reducible first | exact HB.out | apply below_alloc | apply pw_below_drewN | apply below_drew1 | refine below_set ?_ (IsS61.ge aa.out)) | exact HB.out)); rintro e ar ⟨rfl, hi, hb, hk⟩; refine ⟨_, rfl, ?_⟩; have n0_ := Aside0.mk (KeepBut.trans (by repeat (first | (with_reducible first | exact HK.out | apply KeepBut.set_ | apply keep_drewN | apply keep_drew | apply keep_alloc) | exact HK.out)) hk (.inl rfl)); have n1_ := Aside0.mk (hb); have n2_ := Aside0.mk (hi); clear HK; clear HB; clear aa; have HK := n0_; have HB := n1_; have aa := n2_; clear n0_ n1_ n2_; clear hb hk hi))
 go_ret
 exact ⟨eR, by exact iS61 aa, by repeat (first | (with_reducible first | exact HB.out | apply below_alloc | apply pw_below_drewN | apply below_drew1 | refine below_set ?_ (IsS61.ge aa.out)) | exact HB.out), by repeat (first | (with_reducible first | exact HK.out | apply KeepBut.set_ | apply keep_drewN | apply keep_drew | apply keep_alloc) | exact HK.out)⟩
 }
 {
 rw [if_neg c3] at H
 have c3b0 : (ad == 0) = false := beq_eq_false_iff_ne.mpr c3
 have c3b1 : (ad != 0) = true := bne_iff_ne.mpr c3
 by_cases c5 : ad = 1
 {
 rw [if_pos c5] at H
 have c5b0 : (ad == 1) = true := beq_iff_eq.mpr c5
 have c5b1 : (ad != 1) = false := bne_eq_false_iff_eq.mpr c5
 clear c5
 obtain ⟨af, ak⟩ : ∃ y_ : List Int, y_ = (([0, 4294967295, 2130706433, 3758096389, 4026531840, 167772415, (-1), 4294967296, 3758096384, 4026531839] : List Int)) := ⟨_, rfl⟩
 replace H : ((spec_l01Next.f ab ai aj 10).bind fun ac => (if 0 ≤ ac.1 then (if ac.1 < (af.length : Int) then (some (rd af ac.1, ac.2.1, ac.2.2)) else (none)) else (none))) = some (r1, r2, r3) := by first | (rw [ak]; with_reducible exact H) | (have H2_ := (Option.bind_some _ _).symm.trans H; rw [ak]; with_reducible exact H2_) | (have H2_ := (Option.bind_some _ _).symm.trans H; with_reducible exact H2_) | with_reducible exact H | (rw [ak]; exact H) | exact H
 have Ny227 := Aside0.mk ak
 clear ak
 replace H := Option.bind_eq_some_iff.mp H
 obtain ⟨⟨ag, ay, az⟩, A60, H⟩ := H
 try dsimp only at H
 have A6 := Aside0.mk A60
 clear A60
 by_cases c7 : 0 ≤ ag
 {
 rw [if_pos c7] at H
 have c7b0 : decide (0 ≤ ag) = true := decide_eq_true c7
 clear c7
 by_cases c8 : ag < (af.length : Int)
 {
 rw [if_pos c8] at H
 have c8b0 : decide (ag < (af.length : Int)) = true := decide_eq_true c8
 clear c8
 simp only [Option.some.injEq, Prod.mk.injEq] at H
 obtain ⟨rfl, rfl, rfl⟩ := H
 go_enter Try.func47, Try.ntmps47
 go_wp2_with (first | ((with_reducible refine gate_callee (f := 30) rfl ?_); refine gL (some 4) Try.func30 #[.pointer (some ⟨g, 0, none⟩), .int .i64 8] ?_; (with_reducible refine (spec_l01Next.calls g ab am an 8 ad ai aj w0 _ ?side1 ?side2 A2.out).mono ?_); (case side1 => exact iS61 aa); (case side2 => repeat (first | (with_reducible first | exact HB.out | apply below_alloc | apply pw_below_drewN | apply below_drew1 | refine below_set ?_ (IsS61.ge aa.out)) | exact HB.out)); rintro e aq ⟨rfl, hi, hb, hk⟩; refine ⟨_, rfl, ?_⟩; have n0_ := Aside0.mk (KeepBut.trans (by repeat (first | (with_reducible first | exact HK.out | apply KeepBut.set_ | apply keep_drewN | apply keep_drew | apply keep_alloc) | exact HK.out)) hk (.inl rfl)); have n1_ := Aside0.mk (hb); have n2_ := Aside0.mk (hi); clear HK; clear HB; clear aa; have HK := n0_; have HB := n1_; have aa := n2_; clear n0_ n1_ n2_; clear hb hk hi) | ((with_reducible refine gate_dst (N := 11) rfl ?_); refine Kd.R_lit (Kd.int .i64) _ 2 ?hg (N := 11) ?hd (xs := ([0, 4294967295, 2130706433, 3758096389, 4026531840, 167772415, (-1), 4294967296, 3758096384, 4026531839] : List Int)) (inner := [.int .i64 0, .int .i64 4294967295, .int .i64 2130706433, .int .i64 3758096389, .int .i64 4026531840, .int .i64 167772415, .int .i64 (-1), .int .i64 4294967296, .int .i64 3758096384, .int .i64 4026531839]) (ok := fun _ => True) (okp := fun _ => True) ?hr ?hp (fun _ hk => hk) trivial (Below.refl _ _) (Nat.le_refl _) (by simp) ?_; (case hd => rfl); (case hg => rfl); (case hr => first | (go_simp; done) | (go_simp; rfl)); (case hp => exact (Reps.one (show Kd.M (Kd.int .i64) _ _ _ 0 [.int .i64 0] from rfl) (Reps.one (show Kd.M (Kd.int .i64) _ _ _ 4294967295 [.int .i64 4294967295] from rfl) (Reps.one (show Kd.M (Kd.int .i64) _ _ _ 2130706433 [.int .i64 2130706433] from rfl) (Reps.one (show Kd.M (Kd.int .i64) _ _ _ 3758096389 [.int .i64 3758096389] from rfl) (Reps.one (show Kd.M (Kd.int .i64) _ _ _ 4026531840 [.int .i64 4026531840] from rfl) (Reps.one (show Kd.M (Kd.int .i64) _ _ _ 167772415 [.int .i64 167772415] from rfl) (Reps.one (show Kd.M (Kd.int .i64) _ _ _ (-1) [.int .i64 (-1)] from rfl) (Reps.one (show Kd.M (Kd.int .i64) _ _ _ 4294967296 [.int .i64 4294967296] from rfl) (Reps.one (show Kd.M (Kd.int .i64) _ _ _ 3758096384 [.int .i64 3758096384] from rfl) (Reps.one (show Kd.M (Kd.int .i64) _ _ _ 4026531839 [.int .i64 4026531839] from rfl) (Reps.none _ _)))))))))))); intro aG ar ah hb hg_ hnew_; clear hg_ hnew_; (first | rw [← Ny227.out] at ah | (simp only [Int.reduceToNat] at ah; rw [← Ny227.out] at ah)); have n0_ := Aside0.mk (Kd.R_lower ah (keep_size (w := w) (g := g) (row := none) (by repeat (first | (with_reducible first | exact HK.out | apply KeepBut.set_ | apply keep_drewN | apply keep_drew | apply keep_alloc) | exact HK.out)))); have n1_ := Aside0.mk (IsS61.below (iS61 aa) hb); have n2_ := Aside0.mk (KeepBut.trans (by repeat (first | (with_reducible first | exact HK.out | apply KeepBut.set_ | apply keep_drewN | apply keep_drew | apply keep_alloc) | exact HK.out)) (KeepBut.of_below hb g none) (.inl rfl)); have n3_ := Aside0.mk (below_step (by repeat (first | (with_reducible first | exact HB.out | apply below_alloc | apply pw_below_drewN | apply below_drew1 | refine below_set ?_ (IsS61.ge aa.out)) | exact HB.out)) hb); clear aa; clear HK; clear HB; have al := n0_; have aa := n1_; have HK := n2_; have HB := n3_; clear n0_ n1_ n2_ n3_; clear hb ah) | ((with_reducible refine gate_callee (f := 30) rfl ?_); refine gL (some 13) Try.func30 #[.pointer (some ⟨g, 0, none⟩), .int .i64 10] ?_; (with_reducible refine (spec_l01Next.calls g ab ai aj 10 ag ay az w0 _ ?side1 ?side2 A6.out).mono ?_); (case side1 => exact iS61 aa); (case side2 => repeat (first | (with_reducible first | exact HB.out | apply below_alloc | apply pw_below_drewN | apply below_drew1 | refine below_set ?_ (IsS61.ge aa.out)) | exact HB.out)); rintro e aF ⟨rfl, hi, hb, hk⟩; refine ⟨_, rfl, ?_⟩; have n0_ := kR61 (iS61 aa) al hk; have n1_ := Aside0.mk (KeepBut.trans (by repeat (first | (with_reducible first | exact HK.out | apply KeepBut.set_ | apply keep_drewN | apply keep_drew | apply keep_alloc) | exact HK.out)) hk (.inl rfl)); have n2_ := Aside0.mk (hb); have n3_ := Aside0.mk (hi); clear al; clear HK; clear HB; clear aa; have al := n0_; have HK := n1_; have HB := n2_; have aa := n3_; clear n0_ n1_ n2_ n3_; clear hb hk hi; obtain ⟨aD, aE, au⟩ := Kd.R_slice al.out; subst au; have p233 : 0 ≤ (ag : Int) := dT; have q233 : ag < (af.length : Int) := dT; obtain ⟨ad233, e233, hx233_0⟩ := Kd.at_int (Kd.R_reads' al.out).2.2 ag p233 q233; cases e233; replace p233 := eq_true p233; replace q233 := eq_true q233))
 go_ret
 exact ⟨eR, by exact iS61 aa, by repeat (first | (with_reducible first | exact HB.out | apply below_alloc | apply pw_below_drewN | apply below_drew1 | refine below_set ?_ (IsS61.ge aa.out)) | exact HB.out), by repeat (first | (with_reducible first | exact HK.out | apply KeepBut.set_ | apply keep_drewN | apply keep_drew | apply keep_alloc) | exact HK.out)⟩
 }
 {
 rw [if_neg c8] at H
 exact absurd H (by simp)
 }
 }
 {
 rw [if_neg c7] at H
 exact absurd H (by simp)
 }
 }
 {
 rw [if_neg c5] at H
 have c5b0 : (ad == 1) = false := beq_eq_false_iff_ne.mpr c5
 have c5b1 : (ad != 1) = true := bne_iff_ne.mpr c5
 replace H := Option.bind_eq_some_iff.mp H
 obtain ⟨⟨aA, aB, aC⟩, A90, H⟩ := H
 try dsimp only at H
 have A9 := Aside0.mk A90
 clear A90
 simp only [Option.some.injEq, Prod.mk.injEq] at H
 obtain ⟨rfl, rfl, rfl⟩ := H
 go_enter Try.func47, Try.ntmps47
 go_wp2_with (first | ((with_reducible refine gate_callee (f := 30) rfl ?_); refine gL (some 4) Try.func30 #[.pointer (some ⟨g, 0, none⟩), .int .i64 8] ?_; (with_reducible refine (spec_l01Next.calls g ab am an 8 ad ai aj w0 _ ?side1 ?side2 A2.out).mono ?_); (case side1 => exact iS61 aa); (case side2 => repeat (first | (with_reducible first | exact HB.out | apply below_alloc | apply pw_below_drewN | apply below_drew1 | refine below_set ?_ (IsS61.ge aa.out)) | exact HB.out)); rintro e aq ⟨rfl, hi, hb, hk⟩; refine ⟨_, rfl, ?_⟩; have n0_ := Aside0.mk (KeepBut.trans (by repeat (first | (with_reducible first | exact HK.out | apply KeepBut.set_ | apply keep_drewN | apply keep_drew | apply keep_alloc) | exact HK.out)) hk (.inl rfl)); have n1_ := Aside0.mk (hb); have n2_ := Aside0.mk (hi); clear HK; clear HB; clear aa; have HK := n0_; have HB := n1_; have aa := n2_; clear n0_ n1_ n2_; clear hb hk hi) | ((with_reducible refine gate_callee (f := 30) rfl ?_); refine gL (some 17) Try.func30 #[.pointer (some ⟨g, 0, none⟩), .int .i64 6] ?_; (with_reducible refine (spec_l01Next.calls g ab ai aj 6 aA aB aC w0 _ ?side1 ?side2 A9.out).mono ?_); (case side1 => exact iS61 aa); (case side2 => repeat (first | (with_reducible first | exact HB.out | apply below_alloc | apply pw_below_drewN | apply below_drew1 | refine below_set ?_ (IsS61.ge aa.out)) | exact HB.out)); rintro e ar ⟨rfl, hi, hb, hk⟩; refine ⟨_, rfl, ?_⟩; have n0_ := Aside0.mk (KeepBut.trans (by repeat (first | (with_reducible first | exact HK.out | apply KeepBut.set_ | apply keep_drewN | apply keep_drew | apply keep_alloc) | exact HK.out)) hk (.inl rfl)); have n1_ := Aside0.mk (hb); have n2_ := Aside0.mk (hi); clear HK; clear HB; clear aa; have HK := n0_; have HB := n1_; have aa := n2_; clear n0_ n1_ n2_; clear hb hk hi))
 go_ret
 exact ⟨eR, by exact iS61 aa, by repeat (first | (with_reducible first | exact HB.out | apply below_alloc | apply pw_below_drewN | apply below_drew1 | refine below_set ?_ (IsS61.ge aa.out)) | exact HB.out), by repeat (first | (with_reducible first | exact HK.out | apply KeepBut.set_ | apply keep_drewN | apply keep_drew | apply keep_alloc) | exact HK.out)⟩
 }
 }

/-! ### spec_l01Bool: function 67 -/
def spec_l01Bool.f (s0_0 : List Int) (s0_1 : Int) (s0_2 : Int) : Option (Bool × Int × Int) := (spec_l01Next.f s0_0 s0_1 s0_2 2).bind fun bt237 => (some ((bt237.1 == 0), bt237.2.1, bt237.2.2))
set_option maxHeartbeats 60000000 in
set_option maxRecDepth 100000 in
theorem spec_l01Bool.calls (g : Nat) (aa : List Int) (ac : Int) (ad : Int) (r1 : Bool) (r2 : Int) (r3 : Int) (w0 w : World) (hI : IsS61 w0 w g aa ac ad) (hB : Below w0.heap.size w0 w) (h : spec_l01Bool.f aa ac ad = some (r1, r2, r3)) :
 Calls Try.prog 67 #[.pointer (some ⟨g, 0, none⟩)] w fun e w' => e = .returned (.bool r1) ∧ IsS61 w0 w' g aa r2 r3 ∧ Below w0.heap.size w0 w' ∧ KeepBut w w' g none := by
 have ab := Aside0.mk hI
 have HK := Aside0.mk (KeepBut.refl w g none)
 have HL := Aside0.mk hB.size
 clear hI
 have HW0 := Aside0.mk hB.size
 have HB := Aside0.mk hB
 clear hB
 have H : ((spec_l01Next.f aa ac ad 2).bind fun ae => (some ((ae.1 == 0), ae.2.1, ae.2.2))) = some (r1, r2, r3) := h
 clear h
 replace H := Option.bind_eq_some_iff.mp H
 obtain ⟨⟨af, ag, ah⟩, A20, H⟩ := H
 try dsimp only at H
 have A2 := Aside0.mk A20
 clear A20
 simp only [Option.some.injEq, Prod.mk.injEq] at H
 obtain ⟨rfl, rfl, rfl⟩ := H
 go_enter Try.func67, Try.ntmps67
 go_wp2_with (first | ((with_reducible refine gate_callee (f := 30) rfl ?_); refine gL (some 4) Try.func30 #[.pointer (some ⟨g, 0, none⟩), .int .i64 2] ?_; (with_reducible refine (spec_l01Next.calls g aa ac ad 2 af ag ah w0 _ ?side1 ?side2 A2.out).mono ?_); (case side1 => exact iS61 ab); (case side2 => repeat (first | (with_reducible first | exact HB.out | apply below_alloc | apply pw_below_drewN | apply below_drew1 | refine below_set ?_ (IsS61.ge ab.out)) | exact HB.out)); rintro e ai ⟨rfl, hi, hb, hk⟩; refine ⟨_, rfl, ?_⟩; have n0_ := Aside0.mk (KeepBut.trans (by repeat (first | (with_reducible first | exact HK.out | apply KeepBut.set_ | apply keep_drewN | apply keep_drew | apply keep_alloc) | exact HK.out)) hk (.inl rfl)); have n1_ := Aside0.mk (hb); have n2_ := Aside0.mk (hi); clear HK; clear HB; clear ab; have HK := n0_; have HB := n1_; have ab := n2_; clear n0_ n1_ n2_; clear hb hk hi))
 go_ret
 exact ⟨eR, by exact iS61 ab, by repeat (first | (with_reducible first | exact HB.out | apply below_alloc | apply pw_below_drewN | apply below_drew1 | refine below_set ?_ (IsS61.ge ab.out)) | exact HB.out), by repeat (first | (with_reducible first | exact HK.out | apply KeepBut.set_ | apply keep_drewN | apply keep_drew | apply keep_alloc) | exact HK.out)⟩

/-! ### spec_l05Bend: function 80 -/
/-! ### spec_l05Bend: function 80, walked by hand -/
def spec_l05Bend.f (c : List Int) (p t : Int) (x0 : Int) (x1 : Int) (x2 : Bool) (x3 : Bool) (x4 : Int) (x5 : Int) (x6 : Int) (x7 : Int) (x8 : Int) (ol dl : List Int) : Option (Int × Int × Bool × Bool × Int × Int × Int × Int × Int × List Int × List Int × Int × Int) := (spec_l01Next.f c p t 40).bind fun a => if a.1 = 0 then some (256, x1, x2, x3, x4, x5, x6, x7, x8, ol, dl, a.2.1, a.2.2) else if a.1 = 1 then some (x0, (-1), x2, x3, x4, x5, x6, x7, x8, ol, dl, a.2.1, a.2.2) else if a.1 = 2 then some (x0, x1, x2, x3, 4, x5, x6, x7, x8, ol, dl, a.2.1, a.2.2) else if a.1 = 3 then some (x0, x1, x2, x3, 65536, x5, x6, x7, x8, ol, dl, a.2.1, a.2.2) else if a.1 = 4 then some (x0, x1, x2, x3, x4, x5, x6, x7, x8, [1, 2, 3], dl, a.2.1, a.2.2) else if a.1 = 5 then some (x0, x1, x2, x3, x4, x5, x6, 4294967296, x8, ol, dl, a.2.1, a.2.2) else if a.1 = 6 then some (x0, x1, x2, x3, x4, 256, x6, x7, x8, ol, dl, a.2.1, a.2.2) else if a.1 = 7 then ((spec_l01Next.f c a.2.1 a.2.2 2).bind fun b => (if 0 ≤ wrap64 (wrap64 (65515 - (ol.length : Int)) + b.1) then (if (wrap64 (wrap64 (65515 - (ol.length : Int)) + b.1) : Int).toNat ≤ 281474976710656 then some (x0, x1, x2, x3, x4, x5, x6, x7, x8, ol, (List.replicate (wrap64 (wrap64 (65515 - (ol.length : Int)) + b.1) : Int).toNat 0), b.2.1, b.2.2) else none) else none)) else if a.1 = 8 then ((spec_l01Next.f c a.2.1 a.2.2 2).bind fun b => (if 0 ≤ wrap64 (7 + b.1) then (if (wrap64 (7 + b.1) : Int).toNat ≤ 281474976710656 then some (x0, x1, x2, x3, 65528, x5, x6, x7, x8, ol, (List.replicate (wrap64 (7 + b.1) : Int).toNat 0), b.2.1, b.2.2) else none) else none)) else if a.1 = 9 then some (x0, x1, x2, x3, x4, x5, x6, x7, x8, (List.replicate (44 : Int).toNat 0), dl, a.2.1, a.2.2) else some (x0, x1, x2, x3, x4, x5, x6, x7, x8, ol, dl, a.2.1, a.2.2)
def spec_l05Bend.T17 : Bool × List (List Nat × List Nat) := (true, [([], []), ([0], [0]), ([1], [1]), ([2], [2]), ([], []), ([4], [4]), ([3, 5], [3, 5]), ([6, 6], [6]), ([0, 1, 2, 3, 4, 5, 6, 7], []), ([8, 7, 5, 0, 1, 2, 3, 4, 5, 6, 7], [7, 8])])
def spec_l05Bend.B17 : List Nat := [0, 1, 3, 7, 0, 16, 63, 127, 255, 511]
theorem spec_l05Bend.tab17 : rtab .any (opsOf Try.f80 17) = spec_l05Bend.T17 := by kernel_rfl
theorem spec_l05Bend.bits17 : waitsOk spec_l05Bend.T17.2 spec_l05Bend.B17 = true := by kernel_rfl
def spec_l05Bend.m (b : Nat) : Array Bool := ((List.range 10).map fun i => b.testBit i).toArray
set_option maxHeartbeats 60000000 in
set_option maxRecDepth 100000 in
theorem spec_l05Bend.calls (g : Nat) (c : List Int) (p t : Int) (x0 : Int) (x1 : Int) (x2 : Bool) (x3 : Bool) (x4 : Int) (x5 : Int) (x6 : Int) (x7 : Int) (x8 : Int) (vo vd : Value) (ol dl : List Int) (r0 : Int) (r1 : Int) (r2 : Bool) (r3 : Bool) (r4 : Int) (r5 : Int) (r6 : Int) (r7 : Int) (r8 : Int) (r9 : List Int) (aa : List Int) (ab : Int) (ac : Int) (w0 w : World) (hI : IsS61 w0 w g c p t) (hB : Below w0.heap.size w0 w) (hO : Kd.R (Kd.int .u8) 5 w w0.heap.size (fun k_ => some k_ ≠ (vd : Value).ownBlock) (vo) ol) (hD : Kd.R (Kd.int .u8) 5 w w0.heap.size (fun k_ => some k_ ≠ (vo : Value).ownBlock) (vd) dl) (h : spec_l05Bend.f c p t x0 x1 x2 x3 x4 x5 x6 x7 x8 ol dl = some (r0, r1, r2, r3, r4, r5, r6, r7, r8, r9, aa, ab, ac)) :
    Calls Try.prog 80 #[.pointer (some ⟨g, 0, none⟩), .agg #[.int .i64 x0, .int .i64 x1, .bool x2, .bool x3, .int .i64 x4, .int .i64 x5, .int .i64 x6, .int .i64 x7, .int .i64 x8, vo, vd]] w fun e w' => ∃ v9_ v10_ : Value, e = .returned (.agg #[.int .i64 r0, .int .i64 r1, .bool r2, .bool r3, .int .i64 r4, .int .i64 r5, .int .i64 r6, .int .i64 r7, .int .i64 r8, v9_, v10_]) ∧ Kd.R (Kd.int .u8) 5 w' w0.heap.size (fun k_ => some k_ ≠ (v10_ : Value).ownBlock) v9_ r9 ∧ Kd.R (Kd.int .u8) 5 w' w0.heap.size (fun k_ => some k_ ≠ (v9_ : Value).ownBlock) v10_ aa ∧ IsS61 w0 w' g c ab ac ∧ Below w0.heap.size w0 w' ∧ KeepBut w w' g none := by
 obtain ⟨Ao, co, rfl⟩ := Kd.R_slice hO
 obtain ⟨Ad, cd, rfl⟩ := Kd.R_slice hD
 have hu25 := Try.underlying25
 have HI := Aside0.mk hI
 have HK := Aside0.mk (KeepBut.refl w g none)
 have HW0 := Aside0.mk hB.size
 have HB := Aside0.mk hB
 have O := Aside0.mk hO
 have D := Aside0.mk hD
 clear hI hB hO hD
 have H : spec_l05Bend.f c p t x0 x1 x2 x3 x4 x5 x6 x7 x8 ol dl = some (r0, r1, r2, r3, r4, r5, r6, r7, r8, r9, aa, ab, ac) := h
 clear h
 unfold spec_l05Bend.f at H
 replace H := Option.bind_eq_some_iff.mp H
 obtain ⟨⟨m, pm, tm⟩, A, H⟩ := H
 dsimp only at A H
 have EA := Aside0.mk A
 clear A
 have HJ := Aside0.mk H
 clear H
 go_enter Try.func80, Try.ntmps80
 go_upto_region 1 with (first | ((with_reducible refine gate_dst (N := 3) rfl ?_); refine boxE 3 #[.int .i64 x0, .int .i64 x1, .bool x2, .bool x3, .int .i64 x4, .int .i64 x5, .int .i64 x6, .int .i64 x7, .int .i64 x8, .slice Ao ol.length co, .slice Ad dl.length cd] 25 ?_; intro g3 hg v1 hbox hb; have K3 := Aside0.mk hbox; have G3 := Aside0.mk ((by rw [hg]; exact keep_size HK.out) : w.heap.size ≤ g3); have X3 := Aside0.mk ((Nat.le_trans HW0.out (by rw [hg]; exact keep_size HK.out)) : w0.heap.size ≤ g3); have N3 := Aside0.mk (IsS61.fresh HI.out g3 (Nat.le_of_eq hg.symm)); replace HI := Aside0.mk (IsS61.below HI.out hb); replace HK := Aside0.mk (KeepBut.trans HK.out (KeepBut.of_below hb g none) (.inl rfl)); replace HB := Aside0.mk (below_step HB.out hb); replace O := Aside0.mk (Kd.R_below O.out hb); replace D := Aside0.mk (Kd.R_below D.out hb); skip; clear hb hbox hg) | ((with_reducible refine gate_dst (N := 4) rfl ?_); refine boxE 4 #[.int .i64 0, .int .i64 0, .bool false, .bool false, .int .i64 0, .int .i64 0, .int .i64 0, .int .i64 0, .int .i64 0, .slice none 0 0, .slice none 0 0] 25 ?_; intro g4 hg v2 hbox hb; have K4 := Aside0.mk hbox; have G4 := Aside0.mk ((by rw [hg]; exact keep_size HK.out) : w.heap.size ≤ g4); have X4 := Aside0.mk ((Nat.le_trans HW0.out (by rw [hg]; exact keep_size HK.out)) : w0.heap.size ≤ g4); have N4 := Aside0.mk (IsS61.fresh HI.out g4 (Nat.le_of_eq hg.symm)); replace HI := Aside0.mk (IsS61.below HI.out hb); replace HK := Aside0.mk (KeepBut.trans HK.out (KeepBut.of_below hb g none) (.inl rfl)); replace HB := Aside0.mk (below_step HB.out hb); replace O := Aside0.mk (Kd.R_below O.out hb); replace D := Aside0.mk (Kd.R_below D.out hb); have N43 := Aside0.mk ((by rw [hg]; exact Nat.ne_of_gt (blk_lt K3.out)) : g4 ≠ g3); replace K3 := Aside0.mk (blk_below K3.out hb); clear hb hbox hg))
 have S : Aside0 (St w0 w g c g4 p t v2) := ⟨⟨HI.out, HB.out, HK.out, K4.out⟩⟩
 have GX : Aside0 (w.heap.size ≤ g3 ∧ w0.heap.size ≤ g3 ∧ g3 ≠ g ∧ g4 ≠ g3) := ⟨⟨G3.out, X3.out, N3.out, N43.out⟩⟩
 clear HI HB HK K4 G3 X3 N3 N43
 go_upto_block 0 with (first | ((with_reducible refine gate_callee (f := 30) rfl ?_); refine gL (some 6) Try.func30 #[.pointer (some ⟨g, 0, none⟩), .int .i64 40] ?_; (with_reducible refine (spec_l01Next.calls g c p t 40 m pm tm w0 _ ?side1 ?side2 EA.out).mono ?_); (case side1 => exact St.i S); (case side2 => exact St.b S); rintro e wa ⟨rfl, hi, hb, hk⟩; refine ⟨_, rfl, ?_⟩; replace K3 := Aside0.mk (KeepBut.blk hk K3.out GX.out.2.2.1 (by simp)); replace O := Aside0.mk (S.out.row O.out hk); replace D := Aside0.mk (S.out.row D.out hk); replace S := Aside0.mk (S.out.call N4.out hi hb hk); clear hi hb hk; skip))
 (try simp only [Act.put, List.setIfInBounds_toArray, List.set_cons_zero, List.set_cons_succ])
 go_cut [] (fun wc => ∃ (y0 : Int) (y1 : Int) (y2 : Bool) (y3 : Bool) (y4 : Int) (y5 : Int) (y6 : Int) (y7 : Int) (y8 : Int) (Bo : Option Addr) (bo : Nat) (om : List Int) (Bd : Option Addr) (bd : Nat) (dm : List Int) (p_ t_ : Int), Aside0 (some (y0, y1, y2, y3, y4, y5, y6, y7, y8, om, dm, p_, t_) = some (r0, r1, r2, r3, r4, r5, r6, r7, r8, r9, aa, ab, ac)) ∧ Aside0 (St w0 w g c g4 p_ t_ wc) ∧ Aside0 (wc.heap[g3]? = some (.cells #[.int .i64 y0, .int .i64 y1, .bool y2, .bool y3, .int .i64 y4, .int .i64 y5, .int .i64 y6, .int .i64 y7, .int .i64 y8, .slice Bo om.length bo, .slice Bd dm.length bd] 25 (0, 0))) ∧ Aside0 (Kd.R (Kd.int .u8) 5 wc w0.heap.size (fun k_ => some k_ ≠ ((.slice Bd dm.length bd) : Value).ownBlock) (.slice Bo om.length bo) om) ∧ Aside0 (Kd.R (Kd.int .u8) 5 wc w0.heap.size (fun k_ => some k_ ≠ ((.slice Bo om.length bo) : Value).ownBlock) (.slice Bd dm.length bd) dm))
 case first =>
  have H := HJ.out
  clear HJ
  by_cases b0 : m = 0
  · rw [if_pos b0] at H
    have b0b : ((m) == 0) = true := beq_iff_eq.mpr b0
    have b0c : ((m) != 0) = false := bne_eq_false_iff_eq.mpr b0
    clear b0
    have HJ := Aside0.mk H
    clear H
    obtain ⟨⟨hczs_0, hczs_1, hczs_2, hczs_3, hczs_4, hczs_5, hczs_6, hczs_7, hczs_8, hczs_9, hczs_10⟩, hfzs_0, hfzs_1, hfzs_2, hfzs_3, hfzs_4, hfzs_5, hfzs_6, hfzs_7, hfzs_8, hfzs_9, hfzs_10⟩ := cells11 K3.out
    go_wp2
    go_meet
    case rel => exact ⟨256, x1, x2, x3, x4, x5, x6, x7, x8, Ao, co, ol, Ad, cd, dl, pm, tm, HJ, ⟨S.out.set GX.out⟩, ⟨blk_put K3.out 0 (.int .i64 256) rfl⟩, ⟨row_set O.out K3.out⟩, ⟨row_set D.out K3.out⟩⟩
  rw [if_neg b0] at H
  have b0b : ((m) == 0) = false := beq_eq_false_iff_ne.mpr b0
  have b0c : ((m) != 0) = true := bne_iff_ne.mpr b0
  clear b0
  by_cases b1 : m = 1
  · rw [if_pos b1] at H
    have b1b : ((m) == 1) = true := beq_iff_eq.mpr b1
    have b1c : ((m) != 1) = false := bne_eq_false_iff_eq.mpr b1
    clear b1
    have HJ := Aside0.mk H
    clear H
    obtain ⟨⟨hczs_0, hczs_1, hczs_2, hczs_3, hczs_4, hczs_5, hczs_6, hczs_7, hczs_8, hczs_9, hczs_10⟩, hfzs_0, hfzs_1, hfzs_2, hfzs_3, hfzs_4, hfzs_5, hfzs_6, hfzs_7, hfzs_8, hfzs_9, hfzs_10⟩ := cells11 K3.out
    go_wp2
    go_meet
    case rel => exact ⟨x0, (-1), x2, x3, x4, x5, x6, x7, x8, Ao, co, ol, Ad, cd, dl, pm, tm, HJ, ⟨S.out.set GX.out⟩, ⟨blk_put K3.out 1 (.int .i64 (-1)) rfl⟩, ⟨row_set O.out K3.out⟩, ⟨row_set D.out K3.out⟩⟩
  rw [if_neg b1] at H
  have b1b : ((m) == 1) = false := beq_eq_false_iff_ne.mpr b1
  have b1c : ((m) != 1) = true := bne_iff_ne.mpr b1
  clear b1
  by_cases b2 : m = 2
  · rw [if_pos b2] at H
    have b2b : ((m) == 2) = true := beq_iff_eq.mpr b2
    have b2c : ((m) != 2) = false := bne_eq_false_iff_eq.mpr b2
    clear b2
    have HJ := Aside0.mk H
    clear H
    obtain ⟨⟨hczs_0, hczs_1, hczs_2, hczs_3, hczs_4, hczs_5, hczs_6, hczs_7, hczs_8, hczs_9, hczs_10⟩, hfzs_0, hfzs_1, hfzs_2, hfzs_3, hfzs_4, hfzs_5, hfzs_6, hfzs_7, hfzs_8, hfzs_9, hfzs_10⟩ := cells11 K3.out
    go_wp2
    go_meet
    case rel => exact ⟨x0, x1, x2, x3, 4, x5, x6, x7, x8, Ao, co, ol, Ad, cd, dl, pm, tm, HJ, ⟨S.out.set GX.out⟩, ⟨blk_put K3.out 4 (.int .i64 4) rfl⟩, ⟨row_set O.out K3.out⟩, ⟨row_set D.out K3.out⟩⟩
  rw [if_neg b2] at H
  have b2b : ((m) == 2) = false := beq_eq_false_iff_ne.mpr b2
  have b2c : ((m) != 2) = true := bne_iff_ne.mpr b2
  clear b2
  by_cases b3 : m = 3
  · rw [if_pos b3] at H
    have b3b : ((m) == 3) = true := beq_iff_eq.mpr b3
    have b3c : ((m) != 3) = false := bne_eq_false_iff_eq.mpr b3
    clear b3
    have HJ := Aside0.mk H
    clear H
    obtain ⟨⟨hczs_0, hczs_1, hczs_2, hczs_3, hczs_4, hczs_5, hczs_6, hczs_7, hczs_8, hczs_9, hczs_10⟩, hfzs_0, hfzs_1, hfzs_2, hfzs_3, hfzs_4, hfzs_5, hfzs_6, hfzs_7, hfzs_8, hfzs_9, hfzs_10⟩ := cells11 K3.out
    go_wp2
    go_meet
    case rel => exact ⟨x0, x1, x2, x3, 65536, x5, x6, x7, x8, Ao, co, ol, Ad, cd, dl, pm, tm, HJ, ⟨S.out.set GX.out⟩, ⟨blk_put K3.out 4 (.int .i64 65536) rfl⟩, ⟨row_set O.out K3.out⟩, ⟨row_set D.out K3.out⟩⟩
  rw [if_neg b3] at H
  have b3b : ((m) == 3) = false := beq_eq_false_iff_ne.mpr b3
  have b3c : ((m) != 3) = true := bne_iff_ne.mpr b3
  clear b3
  by_cases b4 : m = 4
  · rw [if_pos b4] at H
    have b4b : ((m) == 4) = true := beq_iff_eq.mpr b4
    have b4c : ((m) != 4) = false := bne_eq_false_iff_eq.mpr b4
    clear b4
    obtain ⟨yn, hy⟩ : ∃ y_ : List Int, y_ = [1, 2, 3] := ⟨_, rfl⟩
    rw [← hy] at H
    have HY := Aside0.mk hy
    clear hy
    have HJ := Aside0.mk H
    clear H
    go_wp2_with (first | ((with_reducible refine gate_dst (N := 21) rfl ?_); refine Kd.R_lit (Kd.int .u8) _ 5 ?hg (N := 21) ?hd (xs := ([1, 2, 3] : List Int)) (inner := [.int .u8 1, .int .u8 2, .int .u8 3]) (ok := fun _ => True) (okp := fun _ => True) ?hr ?hp (fun _ hk => hk) trivial (Below.refl _ _) (Nat.le_refl _) (by simp) ?_; (case hd => rfl); (case hg => rfl); (case hr => first | (go_simp; done) | (go_simp; rfl)); (case hp => exact (Reps.one (show Kd.M (Kd.int .u8) _ _ _ 1 [.int .u8 1] from rfl) (Reps.one (show Kd.M (Kd.int .u8) _ _ _ 2 [.int .u8 2] from rfl) (Reps.one (show Kd.M (Kd.int .u8) _ _ _ 3 [.int .u8 3] from rfl) (Reps.none _ _))))); intro vn wb ho hb hg_ hnew_; clear hg_ hnew_; (first | rw [← HY.out] at ho | (simp only [Int.reduceToNat] at ho; rw [← HY.out] at ho)); obtain ⟨An, cn, rfl⟩ := Kd.R_slice ho; have Y := Aside0.mk (Kd.R_lower (S.out.newer D.out ho) HW0.out); replace D := Aside0.mk (St.elderB D.out hb ho); replace K3 := Aside0.mk (blk_below K3.out hb); replace S := Aside0.mk (S.out.made hb); clear hb ho; obtain ⟨⟨hczs_0, hczs_1, hczs_2, hczs_3, hczs_4, hczs_5, hczs_6, hczs_7, hczs_8, hczs_9, hczs_10⟩, hfzs_0, hfzs_1, hfzs_2, hfzs_3, hfzs_4, hfzs_5, hfzs_6, hfzs_7, hfzs_8, hfzs_9, hfzs_10⟩ := cells11 K3.out))
    go_meet
    case rel => exact ⟨x0, x1, x2, x3, x4, x5, x6, x7, x8, An, cn, yn, Ad, cd, dl, pm, tm, HJ, ⟨S.out.set GX.out⟩, ⟨blk_put K3.out 9 (.slice An yn.length cn) rfl⟩, ⟨row_set Y.out K3.out⟩, ⟨row_set D.out K3.out⟩⟩
  rw [if_neg b4] at H
  have b4b : ((m) == 4) = false := beq_eq_false_iff_ne.mpr b4
  have b4c : ((m) != 4) = true := bne_iff_ne.mpr b4
  clear b4
  by_cases b5 : m = 5
  · rw [if_pos b5] at H
    have b5b : ((m) == 5) = true := beq_iff_eq.mpr b5
    have b5c : ((m) != 5) = false := bne_eq_false_iff_eq.mpr b5
    clear b5
    have HJ := Aside0.mk H
    clear H
    obtain ⟨⟨hczs_0, hczs_1, hczs_2, hczs_3, hczs_4, hczs_5, hczs_6, hczs_7, hczs_8, hczs_9, hczs_10⟩, hfzs_0, hfzs_1, hfzs_2, hfzs_3, hfzs_4, hfzs_5, hfzs_6, hfzs_7, hfzs_8, hfzs_9, hfzs_10⟩ := cells11 K3.out
    go_wp2
    go_meet
    case rel => exact ⟨x0, x1, x2, x3, x4, x5, x6, 4294967296, x8, Ao, co, ol, Ad, cd, dl, pm, tm, HJ, ⟨S.out.set GX.out⟩, ⟨blk_put K3.out 7 (.int .i64 4294967296) rfl⟩, ⟨row_set O.out K3.out⟩, ⟨row_set D.out K3.out⟩⟩
  rw [if_neg b5] at H
  have b5b : ((m) == 5) = false := beq_eq_false_iff_ne.mpr b5
  have b5c : ((m) != 5) = true := bne_iff_ne.mpr b5
  clear b5
  by_cases b6 : m = 6
  · rw [if_pos b6] at H
    have b6b : ((m) == 6) = true := beq_iff_eq.mpr b6
    have b6c : ((m) != 6) = false := bne_eq_false_iff_eq.mpr b6
    clear b6
    have HJ := Aside0.mk H
    clear H
    obtain ⟨⟨hczs_0, hczs_1, hczs_2, hczs_3, hczs_4, hczs_5, hczs_6, hczs_7, hczs_8, hczs_9, hczs_10⟩, hfzs_0, hfzs_1, hfzs_2, hfzs_3, hfzs_4, hfzs_5, hfzs_6, hfzs_7, hfzs_8, hfzs_9, hfzs_10⟩ := cells11 K3.out
    go_wp2
    go_meet
    case rel => exact ⟨x0, x1, x2, x3, x4, 256, x6, x7, x8, Ao, co, ol, Ad, cd, dl, pm, tm, HJ, ⟨S.out.set GX.out⟩, ⟨blk_put K3.out 5 (.int .i64 256) rfl⟩, ⟨row_set O.out K3.out⟩, ⟨row_set D.out K3.out⟩⟩
  rw [if_neg b6] at H
  have b6b : ((m) == 6) = false := beq_eq_false_iff_ne.mpr b6
  have b6c : ((m) != 6) = true := bne_iff_ne.mpr b6
  clear b6
  by_cases b7 : m = 7
  · rw [if_pos b7] at H
    have b7b : ((m) == 7) = true := beq_iff_eq.mpr b7
    have b7c : ((m) != 7) = false := bne_eq_false_iff_eq.mpr b7
    clear b7
    replace H := Option.bind_eq_some_iff.mp H
    obtain ⟨⟨q, pq, tq⟩, A, H⟩ := H
    dsimp only at A H
    have EB := Aside0.mk A
    clear A
    obtain ⟨ji, hji⟩ : ∃ j_ : Int, wrap64 (wrap64 (65515 - (ol.length : Int)) + q) = j_ := ⟨_, rfl⟩
    rw [hji] at H
    by_cases e1 : 0 ≤ ji
    rotate_left
    · rw [if_neg e1] at H
      cases H
    rw [if_pos e1] at H
    by_cases e2 : (ji : Int).toNat ≤ 281474976710656
    rotate_left
    · rw [if_neg e2] at H
      cases H
    rw [if_pos e2] at H
    obtain ⟨yn, hy⟩ : ∃ y_ : List Int, y_ = List.replicate (ji : Int).toNat 0 := ⟨_, rfl⟩
    rw [← hy] at H
    have HY := Aside0.mk hy
    clear hy
    have HJ := Aside0.mk H
    clear H
    have hji2 : IntKind.i64.wrap (IntKind.i64.wrap (65515 - (ol.length : Int)) + q) = ji := by simp only [i64_w]; exact hji
    have hji3 : IntKind.i64.wrap (wrap64 (65515 - (ol.length : Int)) + q) = ji := (i64_w _).trans hji
    have e1b := eq_true e1
    go_upto_region 17 with (fail)
    refine start_ (n := 10) (S := fun w' => w'.cell? ⟨g3, 9, none⟩ = some (.slice Ao ol.length co)) (ds := [9]) (spec_l05Bend.m 0) (by kernel_rfl) rfl rfl ((blk_cell (blk_drew K3.out) 9).trans rfl) (fun hHeld => ?_)
    refine with_tabW spec_l05Bend.tab17 spec_l05Bend.bits17 (fun HT_ HW_ => ?_)
    have S_ : Aside0 (St w0 w g c g4 pm tm wa.drew) := ⟨⟨IsS61.drew S.out.1, below_drew1 S.out.2.1, keep_drew S.out.2.2.1, blk_drew S.out.2.2.2⟩⟩
    replace O := Aside0.mk (Kd.R_drew O.out)
    replace D := Aside0.mk (Kd.R_drew D.out)
    replace K3 := Aside0.mk (blk_drew K3.out)
    clear S
    have S := S_
    clear S_
    generalize wa.drew = q0 at S O D K3 hHeld ⊢
    refine pu_ HT_ 0 31 (spec_l05Bend.m 1) ?_
    refine pu_ HT_ 4 35 (spec_l05Bend.m 17) ?_
    refine take_ (i := 1) (N := some 32) (v := ?_) (a' := ?_) (spec_l05Bend.m 19) rfl rfl (take_ofW HT_.out HW_.out (by kernel_rfl)) (fun _ _ _ h => h) (Or.inl ⟨by rfl, ?_⟩) hHeld ?_ ?_
    rotate_left
    {
     intro w' s0
     go_simp
     with_reducible rfl
    }
    rotate_left
    {
     simp only [Act.put, List.setIfInBounds_toArray, List.set_cons_zero, List.set_cons_succ, i64_w, i32_w]
     rfl
    }
    refine pu_ HT_ 2 33 (spec_l05Bend.m 23) ?_
    refine pu_ HT_ 3 34 (spec_l05Bend.m 31) ?_
    refine on_ HT_ 5 (some 36) (spec_l05Bend.m 63) (fun K hK => ?_)
    refine nx_ S.out N4 EB (fun v s k => hK.out _ _ ((blk_cell (KeepBut.blk k K3.out GX.out.2.2.1 (by simp)) 9).trans rfl) fun hHeld => ?_)
    replace O := Aside0.mk (S.out.row O.out k)
    replace D := Aside0.mk (S.out.row D.out k)
    replace K3 := Aside0.mk (KeepBut.blk k K3.out GX.out.2.2.1 (by simp))
    replace S := Aside0.mk s
    clear s k
    refine nr_ ?_
    refine pu_ HT_ 6 37 (spec_l05Bend.m 127) ?_
    refine on_ HT_ 7 (some 38) (spec_l05Bend.m 255) (fun K hK => ?_)
    refine Kd.R_make_step (Kd.int .u8) _ 5 (by rfl) (N := 38) rfl 22 _ _ rfl ji rfl rfl Try.underlying22 (.int .u8 0) 1 info5 rfl (by decide) (by omega) 0 (ok := fun _ => True) (okp := fun _ => True) rfl (fun _ hk => hk) trivial e1 (Nat.le_trans (Nat.mul_le_mul_right _ (e2 : ji.toNat ≤ 281474976710656)) (by omega)) (Below.refl _ _) (Nat.le_refl _) ?_
    intro vn wb ho hb hg_ hnew_
    clear hg_ hnew_
    rw [← HY.out] at ho
    obtain ⟨An, cn, rfl⟩ := Kd.R_slice ho
    have Y := Aside0.mk (Kd.R_lower (S.out.newer O.out ho) HW0.out)
    replace O := Aside0.mk (St.elderB O.out hb ho)
    replace K3 := Aside0.mk (blk_below K3.out hb)
    replace S := Aside0.mk (S.out.made hb)
    clear hb ho
    refine hK.out _ _ ((blk_cell K3.out 9).trans rfl) (fun hHeld => ?_)
    clear hK K
    refine norm_ (a' := ?_) ?_ ?_
    rotate_left
    {
     show Act.put _ (some 38) _ = _
     simp only [Act.put, List.setIfInBounds_toArray, List.set_cons_zero, List.set_cons_succ, i64_w, i32_w]
     rfl
    }
    refine pu_ HT_ 8 39 (spec_l05Bend.m 511) ?_
    refine last_ (i := 9) (N := none) (spec_l05Bend.m 1023) rfl rfl (one_of HT_.out (by kernel_rfl)) (by decide) (fun K hK => ?_)
    obtain ⟨⟨hczs_0, hczs_1, hczs_2, hczs_3, hczs_4, hczs_5, hczs_6, hczs_7, hczs_8, hczs_9, hczs_10⟩, hfzs_0, hfzs_1, hfzs_2, hfzs_3, hfzs_4, hfzs_5, hfzs_6, hfzs_7, hfzs_8, hfzs_9, hfzs_10⟩ := cells11 K3.out
    refine skip_ (w1 := wb.setCell ⟨g3, 10, none⟩ (.slice An yn.length cn)) (by rfl) rfl ?_ ?_
    {
     first | (go_simp; done) | (go_simp; rfl)
    }
    refine hK.out _ _ ?_
    clear hK K
    refine done_ (done_of HT_.out (by kernel_rfl)) ?_
    clear HT_ HW_ hHeld
    (try simp only [Act.put, List.setIfInBounds_toArray, List.set_cons_zero, List.set_cons_succ])
    go_wp2
    (try simp only [Act.put, List.setIfInBounds_toArray, List.set_cons_zero, List.set_cons_succ])
    go_meet
    case rel => exact ⟨x0, x1, x2, x3, x4, x5, x6, x7, x8, Ao, co, ol, An, cn, yn, pq, tq, HJ, ⟨S.out.set GX.out⟩, ⟨blk_put K3.out 10 (.slice An yn.length cn) rfl⟩, ⟨row_set O.out K3.out⟩, ⟨row_set Y.out K3.out⟩⟩
  rw [if_neg b7] at H
  have b7b : ((m) == 7) = false := beq_eq_false_iff_ne.mpr b7
  have b7c : ((m) != 7) = true := bne_iff_ne.mpr b7
  clear b7
  by_cases b8 : m = 8
  · rw [if_pos b8] at H
    have b8b : ((m) == 8) = true := beq_iff_eq.mpr b8
    have b8c : ((m) != 8) = false := bne_eq_false_iff_eq.mpr b8
    clear b8
    replace H := Option.bind_eq_some_iff.mp H
    obtain ⟨⟨q, pq, tq⟩, A, H⟩ := H
    dsimp only at A H
    have EB := Aside0.mk A
    clear A
    obtain ⟨ji, hji⟩ : ∃ j_ : Int, wrap64 (7 + q) = j_ := ⟨_, rfl⟩
    rw [hji] at H
    by_cases e1 : 0 ≤ ji
    rotate_left
    · rw [if_neg e1] at H
      cases H
    rw [if_pos e1] at H
    by_cases e2 : (ji : Int).toNat ≤ 281474976710656
    rotate_left
    · rw [if_neg e2] at H
      cases H
    rw [if_pos e2] at H
    obtain ⟨yn, hy⟩ : ∃ y_ : List Int, y_ = List.replicate (ji : Int).toNat 0 := ⟨_, rfl⟩
    rw [← hy] at H
    have HY := Aside0.mk hy
    clear hy
    have HJ := Aside0.mk H
    clear H
    have hji2 : IntKind.i64.wrap (7 + q) = ji := (i64_w _).trans hji
    have e1b := eq_true e1
    obtain ⟨⟨hczs_0, hczs_1, hczs_2, hczs_3, hczs_4, hczs_5, hczs_6, hczs_7, hczs_8, hczs_9, hczs_10⟩, hfzs_0, hfzs_1, hfzs_2, hfzs_3, hfzs_4, hfzs_5, hfzs_6, hfzs_7, hfzs_8, hfzs_9, hfzs_10⟩ := cells11 K3.out
    go_upto_region 20 with (fail)
    have S_ := Aside0.mk (S.out.set GX.out : St w0 w g c g4 pm tm (wa.setCell ⟨g3, 4, none⟩ (.int .i64 65528)))
    have O_ := Aside0.mk (row_set O.out K3.out : Kd.R (Kd.int .u8) 5 (wa.setCell ⟨g3, 4, none⟩ (.int .i64 65528)) w0.heap.size (fun k_ => some k_ ≠ ((.slice Ad dl.length cd) : Value).ownBlock) (.slice Ao ol.length co) ol)
    have D_ := Aside0.mk (row_set D.out K3.out : Kd.R (Kd.int .u8) 5 (wa.setCell ⟨g3, 4, none⟩ (.int .i64 65528)) w0.heap.size (fun k_ => some k_ ≠ ((.slice Ao ol.length co) : Value).ownBlock) (.slice Ad dl.length cd) dl)
    have K3_ : Aside0 ((wa.setCell ⟨g3, 4, none⟩ (.int .i64 65528)).heap[g3]? = some (.cells #[.int .i64 x0, .int .i64 x1, .bool x2, .bool x3, .int .i64 65528, .int .i64 x5, .int .i64 x6, .int .i64 x7, .int .i64 x8, .slice Ao ol.length co, .slice Ad dl.length cd] 25 (0, 0))) := ⟨blk_put K3.out 4 (.int .i64 65528) rfl⟩
    clear S O D K3
    have S := S_
    have O := O_
    have D := D_
    have K3 := K3_
    clear S_ O_ D_ K3_
    clear hczs_0 hfzs_0 hczs_1 hfzs_1 hczs_2 hfzs_2 hczs_3 hfzs_3 hczs_4 hfzs_4 hczs_5 hfzs_5 hczs_6 hfzs_6 hczs_7 hfzs_7 hczs_8 hfzs_8 hczs_9 hfzs_9 hczs_10 hfzs_10
    generalize wa.setCell ⟨g3, 4, none⟩ (.int .i64 65528) = wz at S O D K3 ⊢
    go_wp2_with (first | ((with_reducible refine gate_callee (f := 30) rfl ?_); refine gL (some 44) Try.func30 #[.pointer (some ⟨g, 0, none⟩), .int .i64 2] ?_; (with_reducible refine (spec_l01Next.calls g c pm tm 2 q pq tq w0 _ ?side1 ?side2 EB.out).mono ?_); (case side1 => exact St.i S); (case side2 => exact St.b S); rintro e wy ⟨rfl, hi, hb, hk⟩; refine ⟨_, rfl, ?_⟩; replace K3 := Aside0.mk (KeepBut.blk hk K3.out GX.out.2.2.1 (by simp)); replace O := Aside0.mk (S.out.row O.out hk); replace D := Aside0.mk (S.out.row D.out hk); replace S := Aside0.mk (S.out.call N4.out hi hb hk); clear hi hb hk; skip) | ((with_reducible refine gate_dst (N := 46) rfl ?_); refine Kd.R_make (Kd.int .u8) _ 5 rfl (N := 46) rfl 22 _ _ rfl ji rfl rfl Try.underlying22 (.int .u8 0) 1 info5 rfl (by decide) (by omega) 0 (ok := fun _ => True) (okp := fun _ => True) rfl (fun _ hk => hk) trivial e1 (Nat.le_trans (Nat.mul_le_mul_right _ (e2 : ji.toNat ≤ 281474976710656)) (by omega)) (Below.refl _ _) (Nat.le_refl _) ?_; intro vn wb ho hb hg_ hnew_; clear hg_ hnew_; rw [← HY.out] at ho; obtain ⟨An, cn, rfl⟩ := Kd.R_slice ho; have Y := Aside0.mk (Kd.R_lower (S.out.newer O.out ho) HW0.out); replace O := Aside0.mk (St.elderB O.out hb ho); replace K3 := Aside0.mk (blk_below K3.out hb); replace S := Aside0.mk (S.out.made hb); clear hb ho; obtain ⟨⟨hczs_0, hczs_1, hczs_2, hczs_3, hczs_4, hczs_5, hczs_6, hczs_7, hczs_8, hczs_9, hczs_10⟩, hfzs_0, hfzs_1, hfzs_2, hfzs_3, hfzs_4, hfzs_5, hfzs_6, hfzs_7, hfzs_8, hfzs_9, hfzs_10⟩ := cells11 K3.out))
    go_meet
    case rel => exact ⟨x0, x1, x2, x3, 65528, x5, x6, x7, x8, Ao, co, ol, An, cn, yn, pq, tq, HJ, ⟨S.out.set GX.out⟩, ⟨blk_put K3.out 10 (.slice An yn.length cn) rfl⟩, ⟨row_set O.out K3.out⟩, ⟨row_set Y.out K3.out⟩⟩
  rw [if_neg b8] at H
  have b8b : ((m) == 8) = false := beq_eq_false_iff_ne.mpr b8
  have b8c : ((m) != 8) = true := bne_iff_ne.mpr b8
  clear b8
  by_cases b9 : m = 9
  · rw [if_pos b9] at H
    have b9b : ((m) == 9) = true := beq_iff_eq.mpr b9
    have b9c : ((m) != 9) = false := bne_eq_false_iff_eq.mpr b9
    clear b9
    obtain ⟨yn, hy⟩ : ∃ y_ : List Int, y_ = List.replicate (44 : Int).toNat 0 := ⟨_, rfl⟩
    rw [← hy] at H
    have HY := Aside0.mk hy
    clear hy
    have HJ := Aside0.mk H
    clear H
    go_wp2_with (first | ((with_reducible refine gate_dst (N := 50) rfl ?_); refine Kd.R_make (Kd.int .u8) _ 5 rfl (N := 50) rfl 22 _ _ rfl 44 rfl rfl Try.underlying22 (.int .u8 0) 1 info5 rfl (by decide) (by omega) 0 (ok := fun _ => True) (okp := fun _ => True) rfl (fun _ hk => hk) trivial (by omega) (by omega) (Below.refl _ _) (Nat.le_refl _) ?_; intro vn wb ho hb hg_ hnew_; clear hg_ hnew_; (first | rw [← HY.out] at ho | (simp only [Int.reduceToNat] at ho; rw [← HY.out] at ho)); obtain ⟨An, cn, rfl⟩ := Kd.R_slice ho; have Y := Aside0.mk (Kd.R_lower (S.out.newer D.out ho) HW0.out); replace D := Aside0.mk (St.elderB D.out hb ho); replace K3 := Aside0.mk (blk_below K3.out hb); replace S := Aside0.mk (S.out.made hb); clear hb ho; obtain ⟨⟨hczs_0, hczs_1, hczs_2, hczs_3, hczs_4, hczs_5, hczs_6, hczs_7, hczs_8, hczs_9, hczs_10⟩, hfzs_0, hfzs_1, hfzs_2, hfzs_3, hfzs_4, hfzs_5, hfzs_6, hfzs_7, hfzs_8, hfzs_9, hfzs_10⟩ := cells11 K3.out))
    go_meet
    case rel => exact ⟨x0, x1, x2, x3, x4, x5, x6, x7, x8, An, cn, yn, Ad, cd, dl, pm, tm, HJ, ⟨S.out.set GX.out⟩, ⟨blk_put K3.out 9 (.slice An yn.length cn) rfl⟩, ⟨row_set Y.out K3.out⟩, ⟨row_set D.out K3.out⟩⟩
  rw [if_neg b9] at H
  have b9b : ((m) == 9) = false := beq_eq_false_iff_ne.mpr b9
  have b9c : ((m) != 9) = true := bne_iff_ne.mpr b9
  clear b9
  have HJ := Aside0.mk H
  clear H
  go_wp2
  go_meet
  case rel => exact ⟨x0, x1, x2, x3, x4, x5, x6, x7, x8, Ao, co, ol, Ad, cd, dl, pm, tm, HJ, S, K3, O, D⟩
 case rest =>
  clear HJ S K3 O D EA
  obtain ⟨y0, y1, y2, y3, y4, y5, y6, y7, y8, Bo, bo, om, Bd, bd, dm, p_, t_, HJ, S, K3, O, D⟩ := hcut
  have H := HJ.out
  clear HJ
  simp only [Option.some.injEq, Prod.mk.injEq] at H
  obtain ⟨rfl, rfl, rfl, rfl, rfl, rfl, rfl, rfl, rfl, rfl, rfl, rfl, rfl⟩ := H
  have HI := Aside0.mk S.out.1
  have HB := Aside0.mk S.out.2.1
  have HK := Aside0.mk S.out.2.2.1
  have K4 := Aside0.mk S.out.2.2.2
  clear S
  obtain ⟨⟨hczs_0, hczs_1, hczs_2, hczs_3, hczs_4, hczs_5, hczs_6, hczs_7, hczs_8, hczs_9, hczs_10⟩, hfzs_0, hfzs_1, hfzs_2, hfzs_3, hfzs_4, hfzs_5, hfzs_6, hfzs_7, hfzs_8, hfzs_9, hfzs_10⟩ := cells11 K3.out
  obtain ⟨⟨hcza_0, hcza_1, hcza_2, hcza_3, hcza_4, hcza_5, hcza_6, hcza_7, hcza_8, hcza_9, hcza_10⟩, hfza_0, hfza_1, hfza_2, hfza_3, hfza_4, hfza_5, hfza_6, hfza_7, hfza_8, hfza_9, hfza_10⟩ := cells11 K4.out
  go_wp2_with (first | ((with_reducible refine gate_store (t := 25) (p := 4) rfl ?_); refine storeE (put11 wc g4 (.int .i64 y0) (.int .i64 y1) (.bool y2) (.bool y3) (.int .i64 y4) (.int .i64 y5) (.int .i64 y6) (.int .i64 y7) (.int .i64 y8) (.slice Bo om.length bo) (.slice Bd dm.length bd)) ?_; intro vS hw; replace O : Aside0 (Kd.R (Kd.int .u8) 5 vS w0.heap.size (fun k_ => some k_ ≠ ((.slice Bd dm.length bd) : Value).ownBlock) (.slice Bo om.length bo) om) := ⟨by rw [hw]; exact row_put O.out K4.out⟩; replace D : Aside0 (Kd.R (Kd.int .u8) 5 vS w0.heap.size (fun k_ => some k_ ≠ ((.slice Bo om.length bo) : Value).ownBlock) (.slice Bd dm.length bd) dm) := ⟨by rw [hw]; exact row_put D.out K4.out⟩; replace HI : Aside0 (IsS61 w0 vS g c p_ t_) := ⟨by rw [hw]; exact is_put HI.out N4.out.symm⟩; replace HK : Aside0 (KeepBut w vS g none) := ⟨by rw [hw]; exact keep_put HK.out G4.out⟩; replace HB : Aside0 (Below w0.heap.size w0 vS) := ⟨by rw [hw]; exact below_put HB.out X4.out⟩; replace K4 : Aside0 (vS.heap[g4]? = some (.cells #[.int .i64 y0, .int .i64 y1, .bool y2, .bool y3, .int .i64 y4, .int .i64 y5, .int .i64 y6, .int .i64 y7, .int .i64 y8, .slice Bo om.length bo, .slice Bd dm.length bd] 25 (0, 0))) := ⟨by rw [hw]; exact set11 K4.out⟩; clear hw))
  refine bodyPost_ret (results_cell_row rfl _ _ g4 25 #[.int .i64 y0, .int .i64 y1, .bool y2, .bool y3, .int .i64 y4, .int .i64 y5, .int .i64 y6, .int .i64 y7, .int .i64 y8, .slice Bo om.length bo, .slice Bd dm.length bd] (0, 0) _ rfl K4.out Try.underlying25 rfl (by kernel_rfl)) rfl ?_
  exact ⟨.slice Bo om.length bo, .slice Bd dm.length bd, eZ, O.out, D.out, HI.out, HB.out, HK.out⟩


/-! ### spec_DrawMayComplain: function 59 -/
/-! ### spec_DrawMayComplain: function 59, walked by hand -/
def spec_DrawMayComplain.j1 (x0 : Int) (x1 : Int) (x2 : Bool) (x3 : Bool) (x4 : Int) (x5 : Int) (x6 : Int) (x7 : Int) (x8 : Int) (c : List Int) (p t : Int) (ol dl : List Int) : Option (Int × Int × Bool × Bool × Int × Int × Int × Int × Int × List Int × List Int) := (spec_l01Next.f c p t 8).bind fun a => if a.1 = 0 then ((spec_l02Addr.f c a.2.1 a.2.2).bind fun b => some (x0, x1, x2, x3, x4, x5, x6, b.1, x8, ol, dl)) else if a.1 = 1 then ((spec_l02Addr.f c a.2.1 a.2.2).bind fun b => some (x0, x1, x2, x3, x4, x5, x6, x7, b.1, ol, dl)) else if a.1 = 2 then ((spec_l05Bend.f c a.2.1 a.2.2 x0 x1 x2 x3 x4 x5 x6 x7 x8 ol dl).bind fun q => some (q.1, q.2.1, q.2.2.1, q.2.2.2.1, q.2.2.2.2.1, q.2.2.2.2.2.1, q.2.2.2.2.2.2.1, q.2.2.2.2.2.2.2.1, q.2.2.2.2.2.2.2.2.1, q.2.2.2.2.2.2.2.2.2.1, q.2.2.2.2.2.2.2.2.2.2.1)) else some (x0, x1, x2, x3, x4, x5, x6, x7, x8, ol, dl)
def spec_DrawMayComplain.j0 (b : Bool) (x0 : Int) (x1 : Int) (x2 : Bool) (x3 : Bool) (x4 : Int) (x5 : Int) (x6 : Int) (x7 : Int) (x8 : Int) (c : List Int) (p t : Int) (ol dl : List Int) : Option (Int × Int × Bool × Bool × Int × Int × Int × Int × Int × List Int × List Int) := if b = true then ((spec_l01Next.f c p t 4).bind fun a => (if 0 ≤ a.1 then (if a.1 < 4 then (if 0 < (dl.length : Int) then spec_DrawMayComplain.j1 x0 x1 x2 x3 x4 x5 x6 x7 x8 c a.2.1 a.2.2 ol (dl.set 0 ((rd ([0, 3, 8, 11] : List Int) a.1) % 256)) else none) else none) else none)) else spec_DrawMayComplain.j1 x0 x1 x2 x3 x4 x5 x6 x7 x8 c p t ol dl
def spec_DrawMayComplain.f (k : Nat) (c : List Int) : Option (Int × Int × Bool × Bool × Int × Int × Int × Int × Int × List Int × List Int) := (spec_l01Begin.f k c).bind fun a => ((spec_l05Packet.f k c a.1 a.2 20).bind fun q => if q.2.2.2.2.2.2.1 = 1 then (if (q.2.2.2.2.2.2.2.2.2.2.1.length : Int) > 0 then ((spec_l01Bool.f c q.2.2.2.2.2.2.2.2.2.2.2.1 q.2.2.2.2.2.2.2.2.2.2.2.2).bind fun b => spec_DrawMayComplain.j0 b.1 q.1 q.2.1 q.2.2.1 q.2.2.2.1 q.2.2.2.2.1 q.2.2.2.2.2.1 q.2.2.2.2.2.2.1 q.2.2.2.2.2.2.2.1 q.2.2.2.2.2.2.2.2.1 c b.2.1 b.2.2 q.2.2.2.2.2.2.2.2.2.1 q.2.2.2.2.2.2.2.2.2.2.1) else spec_DrawMayComplain.j0 false q.1 q.2.1 q.2.2.1 q.2.2.2.1 q.2.2.2.2.1 q.2.2.2.2.2.1 q.2.2.2.2.2.2.1 q.2.2.2.2.2.2.2.1 q.2.2.2.2.2.2.2.2.1 c q.2.2.2.2.2.2.2.2.2.2.2.1 q.2.2.2.2.2.2.2.2.2.2.2.2 q.2.2.2.2.2.2.2.2.2.1 q.2.2.2.2.2.2.2.2.2.2.1) else spec_DrawMayComplain.j0 false q.1 q.2.1 q.2.2.1 q.2.2.2.1 q.2.2.2.2.1 q.2.2.2.2.2.1 q.2.2.2.2.2.2.1 q.2.2.2.2.2.2.2.1 q.2.2.2.2.2.2.2.2.1 c q.2.2.2.2.2.2.2.2.2.2.2.1 q.2.2.2.2.2.2.2.2.2.2.2.2 q.2.2.2.2.2.2.2.2.2.1 q.2.2.2.2.2.2.2.2.2.2.1)
theorem spec_DrawMayComplain.mono : ∀ y0 k, LeO (spec_DrawMayComplain.f k y0) (spec_DrawMayComplain.f (k + 1) y0) := by
  intro y0 k
  unfold spec_DrawMayComplain.f
  repeat' first
    | (with_reducible exact spec_l01Begin.mono _ _)
    | (with_reducible exact spec_l05Packet.mono _ _ _ _ _)
    | (with_reducible exact LeO.refl _)
    | (with_reducible exact LeO.none _)
    | (with_reducible refine LeO.ite ?_ ?_)
    | (with_reducible refine LeO.bind ?_ (fun _ => ?_))
def spec_DrawMayComplain.T4 : Bool × List (List Nat × List Nat) := (true, [([], []), ([0], [0]), ([], []), ([], []), ([2, 3], [2, 3]), ([4], [4]), ([5], [5]), ([1, 0, 1, 2, 3, 4, 5, 6], [1]), ([7, 6, 3, 0, 1, 2, 3, 4, 5, 6], [6, 7])])
def spec_DrawMayComplain.B4 : List Nat := [0, 1, 0, 0, 12, 28, 60, 127, 255]
theorem spec_DrawMayComplain.tab4 : rtab .any (opsOf Try.f59 4) = spec_DrawMayComplain.T4 := by kernel_rfl
theorem spec_DrawMayComplain.bits4 : waitsOk spec_DrawMayComplain.T4.2 spec_DrawMayComplain.B4 = true := by kernel_rfl
def spec_DrawMayComplain.m (b : Nat) : Array Bool := ((List.range 9).map fun i => b.testBit i).toArray
theorem spec_DrawMayComplain.lit (w : World) (base : Nat) (ok : Nat → Prop) : Reps (Kd.M (Kd.int .i64) w base ok) 1 ([0, 3, 8, 11] : List Int) [.int .i64 0, .int .i64 3, .int .i64 8, .int .i64 11] := Reps.one (show Kd.M (Kd.int .i64) _ _ _ 0 [.int .i64 0] from rfl) (Reps.one (show Kd.M (Kd.int .i64) _ _ _ 3 [.int .i64 3] from rfl) (Reps.one (show Kd.M (Kd.int .i64) _ _ _ 8 [.int .i64 8] from rfl) (Reps.one (show Kd.M (Kd.int .i64) _ _ _ 11 [.int .i64 11] from rfl) (Reps.none _ _))))
theorem spec_DrawMayComplain.li {ops : Array Oper} {Q : Exit → Act → World → Prop} {oi : Oper} {a : Act} {K : Act → World → Prop} {w0 w u : World} {g : Nat} {c : List Int} {g4 : Nat} {p t : Int} (h : St w0 w g c g4 p t u) (k : ∀ ad n v, Kd.R (Kd.int .i64) 2 v w.heap.size (fun _ => True) (.slice (some ad) 4 n) ([0, 3, 8, 11] : List Int) → Below u.heap.size u v → K (a.put oi.dst (.slice (some ad) 4 n)) v) (hd : oi.dst = some 22 := by rfl) (hn : Region.wanted oi (yielded ops a.tmps) = true := by rfl) (hrun : (execOp a.eval oi).run Try.prog u = .ok (.value (.slice (some ⟨u.heap.size, 0, none⟩) 4 4)) (u.alloc (.cells #[.int .i64 0, .int .i64 3, .int .i64 8, .int .i64 11] 2)) := by first | (go_simp; done) | (go_simp; rfl)) : if Region.wanted oi (yielded ops a.tmps) = true then Oper.wp Try.prog oi a u K Q else K (a.put oi.dst undef) u := by
  refine Kd.R_lit_step (Kd.int .i64) u.heap.size 2 hn hd (xs := ([0, 3, 8, 11] : List Int)) (inner := [.int .i64 0, .int .i64 3, .int .i64 8, .int .i64 11]) (ok := fun _ => True) (okp := fun _ => True) hrun (spec_DrawMayComplain.lit _ _ _) (fun _ hk => hk) trivial (Below.refl _ _) (Nat.le_refl _) (by decide) ?_
  intro v1 v ho hb _ _
  replace ho := Kd.R_lower ho (keep_size h.2.2.1)
  obtain ⟨A, n, rfl⟩ := Kd.R_slice ho
  obtain ⟨ad, rfl, _⟩ := Kd.at_int (Kd.R_reads' ho).2.2 0 (by decide) (by decide)
  exact k ad n v ho hb
set_option maxHeartbeats 60000000 in
set_option maxRecDepth 100000 in
theorem spec_DrawMayComplain.calls (k : Nat) (A0 : Option Addr) (c0 : Nat) (c : List Int) (r1 : Int) (r2 : Int) (r3 : Bool) (r4 : Bool) (r5 : Int) (r6 : Int) (r7 : Int) (r8 : Int) (r9 : Int) (aa : List Int) (ab : List Int) (w : World) (hr0 : Kd.C (Kd.int .u8) w A0 c.length c) (hc0 : c.length ≤ c0) (h : spec_DrawMayComplain.f k c = some (r1, r2, r3, r4, r5, r6, r7, r8, r9, aa, ab)) :
    Calls Try.prog 59 #[.slice A0 c.length c0] w fun e w' => ∃ v9_ v10_ : Value, e = .returned (.agg #[.int .i64 r1, .int .i64 r2, .bool r3, .bool r4, .int .i64 r5, .int .i64 r6, .int .i64 r7, .int .i64 r8, .int .i64 r9, v9_, v10_]) ∧ Kd.R (Kd.int .u8) 5 w' w.heap.size (fun k_ => some k_ ≠ (v10_ : Value).ownBlock) v9_ aa ∧ Kd.R (Kd.int .u8) 5 w' w.heap.size (fun k_ => some k_ ≠ (v9_ : Value).ownBlock) v10_ ab ∧ Below w.heap.size w w' := by
 have hu25 := Try.underlying25
 have hu61 := Try.underlying61
 have HR0 := Aside0.mk hr0
 have ac := Aside0.mk hc0
 clear hr0 hc0
 have HB := Aside0.mk (Below.refl w.heap.size w)
 have H : spec_DrawMayComplain.f k c = some (r1, r2, r3, r4, r5, r6, r7, r8, r9, aa, ab) := h
 clear h
 unfold spec_DrawMayComplain.f at H
 replace H := Option.bind_eq_some_iff.mp H
 obtain ⟨⟨p0, t0⟩, A, H⟩ := H
 dsimp only at A H
 have EA := Aside0.mk A
 clear A
 replace H := Option.bind_eq_some_iff.mp H
 obtain ⟨⟨x0, x1, x2, x3, x4, x5, x6, x7, x8, ol, dl, p1, t1⟩, A, H⟩ := H
 dsimp only at A H
 have EB := Aside0.mk A
 clear A
 have HJ := Aside0.mk H
 clear H
 go_enter Try.func59, Try.ntmps59
 go_upto_region 3 with (first | ((with_reducible refine gate_dst (N := 2) rfl ?_); refine boxE 2 #[.int .i64 0, .int .i64 0, .bool false, .bool false, .int .i64 0, .int .i64 0, .int .i64 0, .int .i64 0, .int .i64 0, .slice none 0 0, .slice none 0 0] 25 ?_; intro g4 hg v1 hbox hb; have K4 := Aside0.mk hbox; have X4 := Aside0.mk ((by rw [hg]; exact HB.out.size) : w.heap.size ≤ g4); replace HB := Aside0.mk (below_step HB.out hb); clear hb hbox hg) | ((with_reducible refine gate_callee (f := 27) rfl ?_); refine gL (some 6) Try.func27 #[.slice A0 c.length c0] ?_; (with_reducible refine (spec_l01Begin.calls k _ _ c p0 t0 _ ?side1 ?side2 EA.out).mono ?_); (case side1 => exact Kd.C_below HR0.out HB.out); (case side2 => exact ac.out); rintro e v2 ⟨rfl, hb⟩; refine ⟨_, rfl, ?_⟩; replace K4 := Aside0.mk (blk_below K4.out hb); replace HB := Aside0.mk (below_step HB.out hb); clear hb) | ((with_reducible refine gate_dst (N := 3) rfl ?_); refine boxE 3 #[.slice none 0 0, .int .i64 0, .int .u64 0] 61 ?_; intro g hg v3 hbox hb; have KS := Aside0.mk hbox; have XS := Aside0.mk ((by rw [hg]; exact HB.out.size) : w.heap.size ≤ g); have N4 := Aside0.mk ((by rw [hg]; exact Nat.ne_of_lt (blk_lt K4.out)) : g4 ≠ g); replace K4 := Aside0.mk (blk_below K4.out hb); replace HB := Aside0.mk (below_step HB.out hb); clear hb hbox hg; obtain ⟨⟨hcs0, hcs1, hcs2⟩, hfs0, hfs1, hfs2⟩ := cells3 KS.out) | ((with_reducible refine gate_store (t := 61) (p := 3) rfl ?_); refine storeE (put3 v3 g (.slice A0 c.length c0) (.int .i64 p0) (.int .u64 t0)) ?_; intro v4 hw; have hB4 : Below w.heap.size w v4 := (by rw [hw]; exact below_set (below_set (below_set HB.out XS.out) XS.out) XS.out); have S : Aside0 (St w w g c g4 p0 t0 v4) := ⟨⟨⟨A0, c0, (by rw [hw]; exact set3 KS.out), XS.out, HR0.out⟩, hB4, KeepBut.of_below hB4 g none, (by rw [hw]; exact (far3 N4.out).trans K4.out)⟩⟩; clear hw hB4 KS K4 HB hcs0 hcs1 hcs2 hfs0 hfs1 hfs2) | ((with_reducible refine gate_callee (f := 29) rfl ?_); refine gL (some 7) Try.func29 #[.pointer (some ⟨g, 0, none⟩), .int .i64 20] ?_; (with_reducible refine (spec_l05Packet.calls k g c p0 t0 20 x0 x1 x2 x3 x4 x5 x6 x7 x8 ol dl p1 t1 w _ ?side1 ?side2 EB.out).mono ?_); (case side1 => exact St.i S); (case side2 => exact St.b S); rintro e v5 ⟨vo, vd, rfl, ho, hd, hi, hb, hk⟩; obtain ⟨Ao, co, rfl⟩ := Kd.R_slice ho; obtain ⟨Ad, cd, rfl⟩ := Kd.R_slice hd; refine ⟨_, rfl, ?_⟩; have O := Aside0.mk (Kd.R_lower ho (keep_size S.out.2.2.1)); have D := Aside0.mk (Kd.R_lower hd (keep_size S.out.2.2.1)); replace S := Aside0.mk (S.out.call N4.out hi hb hk); clear ho hd hi hb hk) | ((with_reducible refine gate_dst (N := 4) rfl ?_); refine boxE 4 #[.int .i64 0, .int .i64 0, .bool false, .bool false, .int .i64 0, .int .i64 0, .int .i64 0, .int .i64 0, .int .i64 0, .slice none 0 0, .slice none 0 0] 25 ?_; intro g5 hg v6 hbox hb; have K5 := Aside0.mk hbox; have GX : Aside0 (w.heap.size ≤ g5 ∧ w.heap.size ≤ g5 ∧ g5 ≠ g ∧ g4 ≠ g5) := ⟨(by rw [hg]; exact ⟨keep_size S.out.2.2.1, keep_size S.out.2.2.1, IsS61.fresh S.out.1 _ (Nat.le_refl _), Nat.ne_of_lt (blk_lt S.out.2.2.2)⟩)⟩; replace O := Aside0.mk (Kd.R_below O.out hb); replace D := Aside0.mk (Kd.R_below D.out hb); replace S := Aside0.mk (S.out.made hb); clear hb hbox hg; obtain ⟨⟨hczs_0, hczs_1, hczs_2, hczs_3, hczs_4, hczs_5, hczs_6, hczs_7, hczs_8, hczs_9, hczs_10⟩, hfzs_0, hfzs_1, hfzs_2, hfzs_3, hfzs_4, hfzs_5, hfzs_6, hfzs_7, hfzs_8, hfzs_9, hfzs_10⟩ := cells11 K5.out) | ((with_reducible refine gate_store (t := 25) (p := 4) rfl ?_); refine storeE (put11 v6 g5 (.int .i64 x0) (.int .i64 x1) (.bool x2) (.bool x3) (.int .i64 x4) (.int .i64 x5) (.int .i64 x6) (.int .i64 x7) (.int .i64 x8) (.slice Ao ol.length co) (.slice Ad dl.length cd)) ?_; intro v7 hw; replace S : Aside0 (St w w g c g4 p1 t1 v7) := ⟨by rw [hw]; exact S.out.put GX.out⟩; replace O : Aside0 (Kd.R (Kd.int .u8) 5 v7 w.heap.size (fun k_ => some k_ ≠ ((.slice Ad dl.length cd) : Value).ownBlock) (.slice Ao ol.length co) ol) := ⟨by rw [hw]; exact row_put O.out K5.out⟩; replace D : Aside0 (Kd.R (Kd.int .u8) 5 v7 w.heap.size (fun k_ => some k_ ≠ ((.slice Ao ol.length co) : Value).ownBlock) (.slice Ad dl.length cd) dl) := ⟨by rw [hw]; exact row_put D.out K5.out⟩; replace K5 : Aside0 (v7.heap[g5]? = some (.cells #[.int .i64 x0, .int .i64 x1, .bool x2, .bool x3, .int .i64 x4, .int .i64 x5, .int .i64 x6, .int .i64 x7, .int .i64 x8, .slice Ao ol.length co, .slice Ad dl.length cd] 25 (0, 0))) := ⟨by rw [hw]; exact set11 K5.out⟩; clear hw; clear hczs_0 hfzs_0 hczs_1 hfzs_1 hczs_2 hfzs_2 hczs_3 hfzs_3 hczs_4 hfzs_4 hczs_5 hfzs_5 hczs_6 hfzs_6 hczs_7 hfzs_7 hczs_8 hfzs_8 hczs_9 hfzs_9 hczs_10 hfzs_10))
 (try simp only [Act.put, List.setIfInBounds_toArray, List.set_cons_zero, List.set_cons_succ])
 go_cut [19] (fun ad wc => ∃ (b : Bool) (p_ t_ : Int), ad = .bool b ∧ Aside0 (spec_DrawMayComplain.j0 b x0 x1 x2 x3 x4 x5 x6 x7 x8 c p_ t_ ol dl = some (r1, r2, r3, r4, r5, r6, r7, r8, r9, aa, ab)) ∧ Aside0 (St w w g c g4 p_ t_ wc) ∧ Aside0 (Kd.R (Kd.int .u8) 5 wc w.heap.size (fun k_ => some k_ ≠ ((.slice Ad dl.length cd) : Value).ownBlock) (.slice Ao ol.length co) ol) ∧ Aside0 (Kd.R (Kd.int .u8) 5 wc w.heap.size (fun k_ => some k_ ≠ ((.slice Ao ol.length co) : Value).ownBlock) (.slice Ad dl.length cd) dl) ∧ Aside0 (wc.heap[g5]? = some (.cells #[.int .i64 x0, .int .i64 x1, .bool x2, .bool x3, .int .i64 x4, .int .i64 x5, .int .i64 x6, .int .i64 x7, .int .i64 x8, .slice Ao ol.length co, .slice Ad dl.length cd] 25 (0, 0))))
 case first =>
  have H := HJ.out
  clear HJ
  obtain ⟨⟨hczs_0, hczs_1, hczs_2, hczs_3, hczs_4, hczs_5, hczs_6, hczs_7, hczs_8, hczs_9, hczs_10⟩, hfzs_0, hfzs_1, hfzs_2, hfzs_3, hfzs_4, hfzs_5, hfzs_6, hfzs_7, hfzs_8, hfzs_9, hfzs_10⟩ := cells11 K5.out
  by_cases b1 : x6 = 1
  · rw [if_pos b1] at H
    have b1b : ((x6) == 1) = true := beq_iff_eq.mpr b1
    have b1c : ((x6) != 1) = false := bne_eq_false_iff_eq.mpr b1
    clear b1
    by_cases b2 : (dl.length : Int) > 0
    · rw [if_pos b2] at H
      have b2b : decide (0 < (dl.length : Int)) = true := decide_eq_true b2
      have b2c : decide (0 < dl.length) = true := decide_eq_true (by omega)
      clear b2
      replace H := Option.bind_eq_some_iff.mp H
      obtain ⟨⟨q, pq, tq⟩, A, H⟩ := H
      dsimp only at A H
      have EC := Aside0.mk A
      clear A
      have HJ := Aside0.mk H
      clear H
      go_wp2_with (first | (go_at_call 67; (with_reducible refine (spec_l01Bool.calls g c p1 t1 q pq tq w _ ?side1 ?side2 EC.out).mono ?_); (case side1 => exact St.i S); (case side2 => exact St.b S); rintro e v8 ⟨rfl, hi, hb, hk⟩; replace O := Aside0.mk (S.out.row O.out hk); replace D := Aside0.mk (S.out.row D.out hk); replace K5 := Aside0.mk (KeepBut.blk hk K5.out GX.out.2.2.1 (by simp)); replace S := Aside0.mk (S.out.call N4.out hi hb hk); clear hi hb hk))
      go_meet
      case rel => exact ⟨q, pq, tq, eZ, HJ, S, O, D, K5⟩
    · rw [if_neg b2] at H
      have b2b : decide (0 < (dl.length : Int)) = false := decide_eq_false b2
      have b2c : decide (0 < dl.length) = false := decide_eq_false (by omega)
      clear b2
      have HJ := Aside0.mk H
      clear H
      go_wp2
      go_meet
      case rel => exact ⟨false, p1, t1, eZ, HJ, S, O, D, K5⟩
  · rw [if_neg b1] at H
    have b1b : ((x6) == 1) = false := beq_eq_false_iff_ne.mpr b1
    have b1c : ((x6) != 1) = true := bne_iff_ne.mpr b1
    have HJ := Aside0.mk H
    clear H
    go_wp2
    go_meet
    case rel => exact ⟨false, p1, t1, eZ, HJ, S, O, D, K5⟩
 case rest =>
  clear HJ S O D K5 EA EB
  obtain ⟨b, p_, t_, rfl, HJ, S, O, D, K5⟩ := hcut
  go_upto_if 19 with (fail)
  (try simp only [Act.put, List.setIfInBounds_toArray, List.set_cons_zero, List.set_cons_succ])
  go_cut [] (fun wc => ∃ (p_ t_ : Int) (Ad : Option Addr) (cd : Nat) (dm : List Int), Aside0 (spec_DrawMayComplain.j1 x0 x1 x2 x3 x4 x5 x6 x7 x8 c p_ t_ ol dm = some (r1, r2, r3, r4, r5, r6, r7, r8, r9, aa, ab)) ∧ Aside0 (St w w g c g4 p_ t_ wc) ∧ Aside0 (Kd.R (Kd.int .u8) 5 wc w.heap.size (fun k_ => some k_ ≠ ((.slice Ad dm.length cd) : Value).ownBlock) (.slice Ao ol.length co) ol) ∧ Aside0 (Kd.R (Kd.int .u8) 5 wc w.heap.size (fun k_ => some k_ ≠ ((.slice Ao ol.length co) : Value).ownBlock) (.slice Ad dm.length cd) dm) ∧ Aside0 (wc.heap[g5]? = some (.cells #[.int .i64 x0, .int .i64 x1, .bool x2, .bool x3, .int .i64 x4, .int .i64 x5, .int .i64 x6, .int .i64 x7, .int .i64 x8, .slice Ao ol.length co, .slice Ad dm.length cd] 25 (0, 0))))
  case first =>
   have H := HJ.out
   clear HJ
   unfold spec_DrawMayComplain.j0 at H
   cases b with
   | false =>
     rw [if_neg (by decide)] at H
     have HJ := Aside0.mk H
     clear H
     go_wp2
     go_meet
     case rel => exact ⟨p_, t_, Ad, cd, dl, HJ, S, O, D, K5⟩
   | true =>
     rw [if_pos rfl] at H
     replace H := Option.bind_eq_some_iff.mp H
     obtain ⟨⟨m, pm, tm⟩, A, H⟩ := H
     dsimp only at A H
     have EC := Aside0.mk A
     clear A
     by_cases e1 : 0 ≤ m
     rotate_left
     · rw [if_neg e1] at H
       cases H
     rw [if_pos e1] at H
     by_cases e2 : m < 4
     rotate_left
     · rw [if_neg e2] at H
       cases H
     rw [if_pos e2] at H
     by_cases e3 : 0 < (dl.length : Int)
     rotate_left
     · rw [if_neg e3] at H
       cases H
     rw [if_pos e3] at H
     obtain ⟨dn, hdn⟩ : ∃ l_ : List Int, l_ = dl.set 0 ((rd ([0, 3, 8, 11] : List Int) m) % 256) := ⟨_, rfl⟩
     rw [← hdn] at H
     have HDN := Aside0.mk hdn
     clear hdn
     have HJ := Aside0.mk H
     clear H
     go_upto_region 4 with (fail)
     obtain ⟨gd, cap, fo, hgb, _, cl, hcl⟩ := Kd.R_form D.out (by omega)
     have GB := Aside0.mk hgb
     clear hgb
     obtain rfl : Ad = some ⟨gd, 0, none⟩ := (by injection fo)
     clear fo cl hcl cap
     refine start_ (n := 9) (S := fun w' => w'.cell? ⟨g5, 10, none⟩ = some (.slice (some ⟨gd, 0, none⟩) dl.length cd)) (ds := [8]) (spec_DrawMayComplain.m 0) (by kernel_rfl) rfl rfl ((blk_cell (blk_drew K5.out) 10).trans rfl) (fun hHeld => ?_)
     refine with_tabW spec_DrawMayComplain.tab4 spec_DrawMayComplain.bits4 (fun HT_ HW_ => ?_)
     have s : St w w g c g4 p_ t_ wc.drew := ⟨IsS61.drew S.out.1, below_drew1 S.out.2.1, keep_drew S.out.2.2.1, blk_drew S.out.2.2.2⟩
     have o := Kd.R_drew O.out
     have d := Kd.R_drew D.out
     have k5 := blk_drew K5.out
     clear S O D K5
     generalize wc.drew = q0 at s o d k5 hHeld ⊢
     refine pu_ HT_ 0 20 (spec_DrawMayComplain.m 1) ?_
     refine take_ (i := 1) (N := some 21) (v := ?_) (a' := ?_) (spec_DrawMayComplain.m 3) rfl rfl (take_ofW HT_.out HW_.out (by kernel_rfl)) (fun _ _ _ h => h) (Or.inl ⟨by rfl, ?_⟩) hHeld ?_ ?_
     rotate_left
     {
      intro w' s0
      go_simp
      with_reducible rfl
     }
     rotate_left
     {
      simp only [Act.put, List.setIfInBounds_toArray, List.set_cons_zero, List.set_cons_succ, i64_w, i32_w]
      rfl
     }
     clear hHeld
     refine join_ (σ := Addr × Nat) 5 (spec_DrawMayComplain.m 15) (fun s_ => [(22, .slice (some s_.1) 4 s_.2), (23, .int .i64 m)]) (fun s_ w' => St w w g c g4 pm tm w' ∧ Kd.R (Kd.int .u8) 5 w' w.heap.size (fun k_ => some k_ ≠ ((.slice (some ⟨gd, 0, none⟩) dl.length cd) : Value).ownBlock) (.slice Ao ol.length co) ol ∧ Kd.R (Kd.int .u8) 5 w' w.heap.size (fun k_ => some k_ ≠ ((.slice Ao ol.length co) : Value).ownBlock) (.slice (some ⟨gd, 0, none⟩) dl.length cd) dl ∧ w'.heap[g5]? = some (.cells #[.int .i64 x0, .int .i64 x1, .bool x2, .bool x3, .int .i64 x4, .int .i64 x5, .int .i64 x6, .int .i64 x7, .int .i64 x8, .slice Ao ol.length co, .slice (some ⟨gd, 0, none⟩) dl.length cd] 25 (0, 0)) ∧ Kd.R (Kd.int .i64) 2 w' w.heap.size (fun _ => True) (.slice (some s_.1) 4 s_.2) ([0, 3, 8, 11] : List Int)) ?_ ?_
     rotate_left
     intro j1
     refine two_ (i := 2) (j := 3) (Ni := some 22) (Nj := some 23) (spec_DrawMayComplain.m 7) (spec_DrawMayComplain.m 11) rfl rfl rfl rfl (two_of HT_.out (by kernel_rfl)) (by decide) (by decide) (fun K hK => ?_) (fun K hK => ?_)
     · skip
       refine spec_DrawMayComplain.li s (fun a9 c9 v L b => hK.out _ _ (((blk_cell (blk_below k5 b) 10).trans rfl)) fun _ => ?_)
       replace s := s.made b
       replace o := Kd.R_below o b
       replace d := Kd.R_below d b
       replace k5 := blk_below k5 b
       clear b
       refine norm_ (a' := ?_) ?_ ?_
       rotate_left
       {
        show Act.put _ (some 22) _ = _
        simp only [Act.put, List.setIfInBounds_toArray, List.set_cons_zero, List.set_cons_succ, i64_w, i32_w]
        rfl
       }
       refine on_ HT_ 3 (some 23) (spec_DrawMayComplain.m 15) (fun K hK => ?_)
       refine nx_ s N4 EC (fun v s' k => hK.out _ _ (((blk_cell (KeepBut.blk k k5 GX.out.2.2.1 (by simp)) 10).trans rfl)) fun _ => ?_)
       exact nrm_ (j1 (a9, c9) _ ⟨s', s.row o k, s.row d k, KeepBut.blk k k5 GX.out.2.2.1 (by simp), s.row L k⟩)
     · skip
       refine nx_ s N4 EC (fun v s' k => hK.out _ _ (((blk_cell (KeepBut.blk k k5 GX.out.2.2.1 (by simp)) 10).trans rfl)) fun _ => ?_)
       replace o := s.row o k
       replace d := s.row d k
       replace k5 := KeepBut.blk k k5 GX.out.2.2.1 (by simp)
       replace s := s'
       clear k
       refine nr_ ?_
       refine on_ HT_ 2 (some 22) (spec_DrawMayComplain.m 15) (fun K hK => ?_)
       refine spec_DrawMayComplain.li s (fun a9 c9 v L b => hK.out _ _ (((blk_cell (blk_below k5 b) 10).trans rfl)) fun _ => ?_)
       exact nrm_ (j1 (a9, c9) _ ⟨s.made b, Kd.R_below o b, Kd.R_below d b, blk_below k5 b, L⟩)
     clear s o d k5
     rintro ⟨a9, c9⟩ q1 ⟨s, o, d, k5, L⟩
     refine pa_ ?_
     refine pu_ HT_ 4 24 (spec_DrawMayComplain.m 31) ?_
     refine on_ HT_ 5 (some 25) (spec_DrawMayComplain.m 63) (fun K hK => ?_)
     obtain ⟨aq, eq_, hx⟩ := Kd.at_int (Kd.R_reads' L).2.2 m e1 e2
     obtain rfl : a9 = aq := (by injection eq_)
     refine value_ (w1 := ?_) (v := ?_) (by rfl) rfl ?_ ?_
     rotate_left 2
     {
      go_simp
      constructor
      rfl
      rfl
     }
     clear hx eq_
     refine hK.out _ _ (((blk_cell k5 10).trans rfl)) fun _ => ?_
     clear hK K
     refine nr_ ?_
     refine pu_ HT_ 6 26 (spec_DrawMayComplain.m 127) ?_
     have p9 : ((0 : Int) < (dl.length : Int)) = True := eq_true e3
     have p9n : (0 < dl.length) = True := eq_true (by omega)
     refine pu_ HT_ 7 27 (spec_DrawMayComplain.m 255) ?_
     refine last_ (i := 8) (N := none) (spec_DrawMayComplain.m 511) rfl rfl (one_of HT_.out (by kernel_rfl)) (by decide) (fun K hK => ?_)
     obtain ⟨hx0, hf0⟩ := Kd.R_celln 0 d (0 : Int) (by decide) e3
     (try rw [show ((0 : Int)).toNat = 0 from rfl] at hx0)
     (try simp only [Nat.reduceMul, Nat.zero_mul, Nat.zero_add, Nat.reduceAdd] at hx0)
     (try rw [show ((0 : Int)).toNat = 0 from rfl] at hf0)
     (try simp only [Nat.reduceMul, Nat.zero_mul, Nat.zero_add, Nat.reduceAdd] at hf0)
     have ngd : g ≠ gd := (by have h_ := IsS61.own_ne s.1 d (by decide); intro e_; exact h_ (by rw [e_]; rfl))
     have n4d : g4 ≠ gd := (by have h_ := Kd.R_ne d s.2.2.2 (by decide); intro e_; exact h_ (by rw [e_]; rfl))
     have n5d : g5 ≠ gd := (by have h_ := Kd.R_ne d k5 (by decide); intro e_; exact h_ (by rw [e_]; rfl))
     have hp := Kd.R_putn d (0 : Int) ((rd ([0, 3, 8, 11] : List Int) m) % 256)
     refine skip_ (w1 := (q1.setCell ⟨gd, 0, none⟩ (.int .u8 ((rd ([0, 3, 8, 11] : List Int) m) % 256)))) (by rfl) rfl ?_ ?_
     {
      first | (go_simp; done) | (go_simp; rfl)
     }
     refine hK.out _ _ ?_
     clear hK K
     refine done_ (done_of HT_.out (by kernel_rfl)) ?_
     clear HT_ HW_ hx0 hf0
     replace hp : Kd.R (Kd.int .u8) 5 (q1.setCell ⟨gd, 0, none⟩ (.int .u8 ((rd ([0, 3, 8, 11] : List Int) m) % 256))) w.heap.size (fun k_ => some k_ ≠ ((.slice Ao ol.length co) : Value).ownBlock) (.slice (some ⟨gd, 0, none⟩) dl.length cd) dn := (by rw [HDN.out]; exact hp)
     have hs : St w w g c g4 pm tm (q1.setCell ⟨gd, 0, none⟩ (.int .u8 ((rd ([0, 3, 8, 11] : List Int) m) % 256))) := ⟨IsS61.far s.1 ngd _, below_set s.2.1 GB.out, keep_far (p := ⟨gd, 0, none⟩) s.2.2.1 GB.out _, blk_far (p := ⟨gd, 0, none⟩) s.2.2.2 n4d _⟩
     have ho : Kd.R (Kd.int .u8) 5 (q1.setCell ⟨gd, 0, none⟩ (.int .u8 ((rd ([0, 3, 8, 11] : List Int) m) % 256))) w.heap.size (fun k_ => some k_ ≠ ((.slice (some ⟨gd, 0, none⟩) dl.length cd) : Value).ownBlock) (.slice Ao ol.length co) ol := Kd.R_mono (Kd.R_far (p := ⟨gd, 0, none⟩) (Kd.R_mono o (fun k_ hk => (⟨hk, fun e_ => hk (by rw [e_]; rfl)⟩ : _ ∧ k_ ≠ gd))) (fun _ hk => hk.2) _) (fun _ hk => hk.1)
     have hk5 : (q1.setCell ⟨gd, 0, none⟩ (.int .u8 ((rd ([0, 3, 8, 11] : List Int) m) % 256))).heap[g5]? = some (.cells #[.int .i64 x0, .int .i64 x1, .bool x2, .bool x3, .int .i64 x4, .int .i64 x5, .int .i64 x6, .int .i64 x7, .int .i64 x8, .slice Ao ol.length co, .slice (some ⟨gd, 0, none⟩) dl.length cd] 25 (0, 0)) := blk_far (p := ⟨gd, 0, none⟩) k5 n5d _
     clear s o d k5 L ngd n4d n5d
     generalize (q1.setCell ⟨gd, 0, none⟩ (.int .u8 ((rd ([0, 3, 8, 11] : List Int) m) % 256))) = q2 at hs ho hp hk5 ⊢
     have hlen : dn.length = dl.length := by rw [HDN.out]; simp
     rw [← hlen] at ho hp hk5
     (try simp only [Act.put, List.setIfInBounds_toArray, List.set_cons_zero, List.set_cons_succ])
     go_wp2
     (try simp only [Act.put, List.setIfInBounds_toArray, List.set_cons_zero, List.set_cons_succ])
     go_meet
     case rel => exact ⟨pm, tm, some ⟨gd, 0, none⟩, cd, dn, HJ, ⟨hs⟩, ⟨ho⟩, ⟨hp⟩, ⟨hk5⟩⟩
  case rest =>
   clear HJ S O D K5
   obtain ⟨p_, t_, Ad, cd, dl, HJ, S, O, D, K5⟩ := hcut
   have H := HJ.out
   clear HJ
   unfold spec_DrawMayComplain.j1 at H
   replace H := Option.bind_eq_some_iff.mp H
   obtain ⟨⟨m, pm, tm⟩, A, H⟩ := H
   dsimp only at A H
   have EA := Aside0.mk A
   clear A
   have HJ := Aside0.mk H
   clear H
   go_upto_block 0 with (first | (go_at_call 30; (with_reducible refine (spec_l01Next.calls g c p_ t_ 8 m pm tm w _ ?side1 ?side2 EA.out).mono ?_); (case side1 => exact St.i S); (case side2 => exact St.b S); rintro e wa ⟨rfl, hi, hb, hk⟩; replace O := Aside0.mk (S.out.row O.out hk); replace D := Aside0.mk (S.out.row D.out hk); replace K5 := Aside0.mk (KeepBut.blk hk K5.out GX.out.2.2.1 (by simp)); replace S := Aside0.mk (S.out.call N4.out hi hb hk); clear hi hb hk))
   (try simp only [Act.put, List.setIfInBounds_toArray, List.set_cons_zero, List.set_cons_succ])
   go_cut [] (fun wc => ∃ (y0 : Int) (y1 : Int) (y2 : Bool) (y3 : Bool) (y4 : Int) (y5 : Int) (y6 : Int) (y7 : Int) (y8 : Int) (Bo : Option Addr) (bo : Nat) (om : List Int) (Bd : Option Addr) (bd : Nat) (dm : List Int) (p_ t_ : Int), Aside0 (some (y0, y1, y2, y3, y4, y5, y6, y7, y8, om, dm) = some (r1, r2, r3, r4, r5, r6, r7, r8, r9, aa, ab)) ∧ Aside0 (St w w g c g4 p_ t_ wc) ∧ Aside0 (wc.heap[g5]? = some (.cells #[.int .i64 y0, .int .i64 y1, .bool y2, .bool y3, .int .i64 y4, .int .i64 y5, .int .i64 y6, .int .i64 y7, .int .i64 y8, .slice Bo om.length bo, .slice Bd dm.length bd] 25 (0, 0))) ∧ Aside0 (Kd.R (Kd.int .u8) 5 wc w.heap.size (fun k_ => some k_ ≠ ((.slice Bd dm.length bd) : Value).ownBlock) (.slice Bo om.length bo) om) ∧ Aside0 (Kd.R (Kd.int .u8) 5 wc w.heap.size (fun k_ => some k_ ≠ ((.slice Bo om.length bo) : Value).ownBlock) (.slice Bd dm.length bd) dm))
   case first =>
    have H := HJ.out
    clear HJ
    by_cases b0 : m = 0
    · rw [if_pos b0] at H
      have b0b : ((m) == 0) = true := beq_iff_eq.mpr b0
      have b0c : ((m) != 0) = false := bne_eq_false_iff_eq.mpr b0
      clear b0
      replace H := Option.bind_eq_some_iff.mp H
      obtain ⟨⟨q, pq, tq⟩, A, H⟩ := H
      dsimp only at A H
      have EB := Aside0.mk A
      clear A
      have HJ := Aside0.mk H
      clear H
      go_wp2_with (first | (go_at_call 47; (with_reducible refine (spec_l02Addr.calls g c pm tm q pq tq w _ ?side1 ?side2 EB.out).mono ?_); (case side1 => exact St.i S); (case side2 => exact St.b S); rintro e wb ⟨rfl, hi, hb, hk⟩; replace O := Aside0.mk (S.out.row O.out hk); replace D := Aside0.mk (S.out.row D.out hk); replace K5 := Aside0.mk (KeepBut.blk hk K5.out GX.out.2.2.1 (by simp)); replace S := Aside0.mk (S.out.call N4.out hi hb hk); clear hi hb hk; obtain ⟨⟨hczs_0, hczs_1, hczs_2, hczs_3, hczs_4, hczs_5, hczs_6, hczs_7, hczs_8, hczs_9, hczs_10⟩, hfzs_0, hfzs_1, hfzs_2, hfzs_3, hfzs_4, hfzs_5, hfzs_6, hfzs_7, hfzs_8, hfzs_9, hfzs_10⟩ := cells11 K5.out))
      go_meet
      case rel => exact ⟨x0, x1, x2, x3, x4, x5, x6, q, x8, Ao, co, ol, Ad, cd, dl, pq, tq, HJ, ⟨S.out.set GX.out⟩, ⟨blk_put K5.out 7 (.int .i64 q) rfl⟩, ⟨row_set O.out K5.out⟩, ⟨row_set D.out K5.out⟩⟩
    rw [if_neg b0] at H
    have b0b : ((m) == 0) = false := beq_eq_false_iff_ne.mpr b0
    have b0c : ((m) != 0) = true := bne_iff_ne.mpr b0
    clear b0
    by_cases b1 : m = 1
    · rw [if_pos b1] at H
      have b1b : ((m) == 1) = true := beq_iff_eq.mpr b1
      have b1c : ((m) != 1) = false := bne_eq_false_iff_eq.mpr b1
      clear b1
      replace H := Option.bind_eq_some_iff.mp H
      obtain ⟨⟨q, pq, tq⟩, A, H⟩ := H
      dsimp only at A H
      have EB := Aside0.mk A
      clear A
      have HJ := Aside0.mk H
      clear H
      go_wp2_with (first | (go_at_call 47; (with_reducible refine (spec_l02Addr.calls g c pm tm q pq tq w _ ?side1 ?side2 EB.out).mono ?_); (case side1 => exact St.i S); (case side2 => exact St.b S); rintro e wb ⟨rfl, hi, hb, hk⟩; replace O := Aside0.mk (S.out.row O.out hk); replace D := Aside0.mk (S.out.row D.out hk); replace K5 := Aside0.mk (KeepBut.blk hk K5.out GX.out.2.2.1 (by simp)); replace S := Aside0.mk (S.out.call N4.out hi hb hk); clear hi hb hk; obtain ⟨⟨hczs_0, hczs_1, hczs_2, hczs_3, hczs_4, hczs_5, hczs_6, hczs_7, hczs_8, hczs_9, hczs_10⟩, hfzs_0, hfzs_1, hfzs_2, hfzs_3, hfzs_4, hfzs_5, hfzs_6, hfzs_7, hfzs_8, hfzs_9, hfzs_10⟩ := cells11 K5.out))
      go_meet
      case rel => exact ⟨x0, x1, x2, x3, x4, x5, x6, x7, q, Ao, co, ol, Ad, cd, dl, pq, tq, HJ, ⟨S.out.set GX.out⟩, ⟨blk_put K5.out 8 (.int .i64 q) rfl⟩, ⟨row_set O.out K5.out⟩, ⟨row_set D.out K5.out⟩⟩
    rw [if_neg b1] at H
    have b1b : ((m) == 1) = false := beq_eq_false_iff_ne.mpr b1
    have b1c : ((m) != 1) = true := bne_iff_ne.mpr b1
    clear b1
    by_cases b2 : m = 2
    · rw [if_pos b2] at H
      have b2b : ((m) == 2) = true := beq_iff_eq.mpr b2
      have b2c : ((m) != 2) = false := bne_eq_false_iff_eq.mpr b2
      clear b2
      replace H := Option.bind_eq_some_iff.mp H
      obtain ⟨⟨y0, y1, y2, y3, y4, y5, y6, y7, y8, om, dm, pq, tq⟩, A, H⟩ := H
      dsimp only at A H
      have EB := Aside0.mk A
      clear A
      have HJ := Aside0.mk H
      clear H
      obtain ⟨⟨hczs_0, hczs_1, hczs_2, hczs_3, hczs_4, hczs_5, hczs_6, hczs_7, hczs_8, hczs_9, hczs_10⟩, hfzs_0, hfzs_1, hfzs_2, hfzs_3, hfzs_4, hfzs_5, hfzs_6, hfzs_7, hfzs_8, hfzs_9, hfzs_10⟩ := cells11 K5.out
      go_wp2_with (first | ((with_reducible refine gate_callee (f := 80) rfl ?_); refine gL (some 40) Try.func80 #[.pointer (some ⟨g, 0, none⟩), .agg #[.int .i64 x0, .int .i64 x1, .bool x2, .bool x3, .int .i64 x4, .int .i64 x5, .int .i64 x6, .int .i64 x7, .int .i64 x8, .slice Ao ol.length co, .slice Ad dl.length cd]] ?_; (with_reducible refine (spec_l05Bend.calls g c pm tm x0 x1 x2 x3 x4 x5 x6 x7 x8 _ _ ol dl y0 y1 y2 y3 y4 y5 y6 y7 y8 om dm pq tq w _ ?side1 ?side2 ?side3 ?side4 EB.out).mono ?_); (case side1 => exact St.i S); (case side2 => exact St.b S); (case side3 => exact O.out); (case side4 => exact D.out); rintro e wb ⟨vo, vd, rfl, ho, hd, hi, hb, hk⟩; obtain ⟨Bo, bo, rfl⟩ := Kd.R_slice ho; obtain ⟨Bd, bd, rfl⟩ := Kd.R_slice hd; refine ⟨_, rfl, ?_⟩; have O2 := Aside0.mk ho; have D2 := Aside0.mk hd; clear hczs_0 hfzs_0 hczs_1 hfzs_1 hczs_2 hfzs_2 hczs_3 hfzs_3 hczs_4 hfzs_4 hczs_5 hfzs_5 hczs_6 hfzs_6 hczs_7 hfzs_7 hczs_8 hfzs_8 hczs_9 hfzs_9 hczs_10 hfzs_10; replace K5 := Aside0.mk (KeepBut.blk hk K5.out GX.out.2.2.1 (by simp)); replace S := Aside0.mk (S.out.call N4.out hi hb hk); clear ho hd hi hb hk O D; obtain ⟨⟨hczs_0, hczs_1, hczs_2, hczs_3, hczs_4, hczs_5, hczs_6, hczs_7, hczs_8, hczs_9, hczs_10⟩, hfzs_0, hfzs_1, hfzs_2, hfzs_3, hfzs_4, hfzs_5, hfzs_6, hfzs_7, hfzs_8, hfzs_9, hfzs_10⟩ := cells11 K5.out) | ((with_reducible refine gate_store (t := 25) (p := 4) rfl ?_); refine storeE (put11 wb g5 (.int .i64 y0) (.int .i64 y1) (.bool y2) (.bool y3) (.int .i64 y4) (.int .i64 y5) (.int .i64 y6) (.int .i64 y7) (.int .i64 y8) (.slice Bo om.length bo) (.slice Bd dm.length bd)) ?_; intro wd hw; replace S : Aside0 (St w w g c g4 pq tq wd) := ⟨by rw [hw]; exact S.out.put GX.out⟩; replace O2 : Aside0 (Kd.R (Kd.int .u8) 5 wd w.heap.size (fun k_ => some k_ ≠ ((.slice Bd dm.length bd) : Value).ownBlock) (.slice Bo om.length bo) om) := ⟨by rw [hw]; exact row_put O2.out K5.out⟩; replace D2 : Aside0 (Kd.R (Kd.int .u8) 5 wd w.heap.size (fun k_ => some k_ ≠ ((.slice Bo om.length bo) : Value).ownBlock) (.slice Bd dm.length bd) dm) := ⟨by rw [hw]; exact row_put D2.out K5.out⟩; replace K5 : Aside0 (wd.heap[g5]? = some (.cells #[.int .i64 y0, .int .i64 y1, .bool y2, .bool y3, .int .i64 y4, .int .i64 y5, .int .i64 y6, .int .i64 y7, .int .i64 y8, .slice Bo om.length bo, .slice Bd dm.length bd] 25 (0, 0))) := ⟨by rw [hw]; exact set11 K5.out⟩; clear hw; clear hczs_0 hfzs_0 hczs_1 hfzs_1 hczs_2 hfzs_2 hczs_3 hfzs_3 hczs_4 hfzs_4 hczs_5 hfzs_5 hczs_6 hfzs_6 hczs_7 hfzs_7 hczs_8 hfzs_8 hczs_9 hfzs_9 hczs_10 hfzs_10))
      go_meet
      case rel => exact ⟨y0, y1, y2, y3, y4, y5, y6, y7, y8, Bo, bo, om, Bd, bd, dm, pq, tq, HJ, S, K5, O2, D2⟩
    rw [if_neg b2] at H
    have b2b : ((m) == 2) = false := beq_eq_false_iff_ne.mpr b2
    have b2c : ((m) != 2) = true := bne_iff_ne.mpr b2
    clear b2
    have HJ := Aside0.mk H
    clear H
    go_wp2
    go_meet
    case rel => exact ⟨x0, x1, x2, x3, x4, x5, x6, x7, x8, Ao, co, ol, Ad, cd, dl, pm, tm, HJ, S, K5, O, D⟩
   case rest =>
    clear HJ S K5 O D EA
    obtain ⟨y0, y1, y2, y3, y4, y5, y6, y7, y8, Bo, bo, om, Bd, bd, dm, p_, t_, HJ, S, K5, O, D⟩ := hcut
    have H := HJ.out
    clear HJ
    simp only [Option.some.injEq, Prod.mk.injEq] at H
    obtain ⟨rfl, rfl, rfl, rfl, rfl, rfl, rfl, rfl, rfl, rfl, rfl⟩ := H
    have HB := Aside0.mk S.out.2.1
    have K4 := Aside0.mk S.out.2.2.2
    clear S
    obtain ⟨⟨hczs_0, hczs_1, hczs_2, hczs_3, hczs_4, hczs_5, hczs_6, hczs_7, hczs_8, hczs_9, hczs_10⟩, hfzs_0, hfzs_1, hfzs_2, hfzs_3, hfzs_4, hfzs_5, hfzs_6, hfzs_7, hfzs_8, hfzs_9, hfzs_10⟩ := cells11 K5.out
    obtain ⟨⟨hcza_0, hcza_1, hcza_2, hcza_3, hcza_4, hcza_5, hcza_6, hcza_7, hcza_8, hcza_9, hcza_10⟩, hfza_0, hfza_1, hfza_2, hfza_3, hfza_4, hfza_5, hfza_6, hfza_7, hfza_8, hfza_9, hfza_10⟩ := cells11 K4.out
    go_wp2_with (first | ((with_reducible refine gate_store (t := 25) (p := 2) rfl ?_); refine storeE (put11 wc g4 (.int .i64 y0) (.int .i64 y1) (.bool y2) (.bool y3) (.int .i64 y4) (.int .i64 y5) (.int .i64 y6) (.int .i64 y7) (.int .i64 y8) (.slice Bo om.length bo) (.slice Bd dm.length bd)) ?_; intro vS hw; replace O : Aside0 (Kd.R (Kd.int .u8) 5 vS w.heap.size (fun k_ => some k_ ≠ ((.slice Bd dm.length bd) : Value).ownBlock) (.slice Bo om.length bo) om) := ⟨by rw [hw]; exact row_put O.out K4.out⟩; replace D : Aside0 (Kd.R (Kd.int .u8) 5 vS w.heap.size (fun k_ => some k_ ≠ ((.slice Bo om.length bo) : Value).ownBlock) (.slice Bd dm.length bd) dm) := ⟨by rw [hw]; exact row_put D.out K4.out⟩; replace HB : Aside0 (Below w.heap.size w vS) := ⟨by rw [hw]; exact below_put HB.out X4.out⟩; replace K4 : Aside0 (vS.heap[g4]? = some (.cells #[.int .i64 y0, .int .i64 y1, .bool y2, .bool y3, .int .i64 y4, .int .i64 y5, .int .i64 y6, .int .i64 y7, .int .i64 y8, .slice Bo om.length bo, .slice Bd dm.length bd] 25 (0, 0))) := ⟨by rw [hw]; exact set11 K4.out⟩; clear hw))
    refine bodyPost_ret (results_cell_row rfl _ _ g4 25 #[.int .i64 y0, .int .i64 y1, .bool y2, .bool y3, .int .i64 y4, .int .i64 y5, .int .i64 y6, .int .i64 y7, .int .i64 y8, .slice Bo om.length bo, .slice Bd dm.length bd] (0, 0) _ rfl K4.out Try.underlying25 rfl (by kernel_rfl)) rfl ?_
    exact ⟨.slice Bo om.length bo, .slice Bd dm.length bd, eZ, O.out, D.out, HB.out⟩


end Go.Proofs.Ytckhadlmhbhngaa.PFnComplain
