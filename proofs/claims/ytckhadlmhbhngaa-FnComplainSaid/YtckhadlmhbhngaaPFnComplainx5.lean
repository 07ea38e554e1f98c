-- Written for this claim by a program of this session (wip/mkprint.py: the print, turned at a few places). Not trusted: Lean checks it.
import Derived.Test.YtckhadlmhbhngaaPFnComplainx0
import Derived.Test.YtckhadlmhbhngaaPFnComplainx3
import Derived.Test.YtckhadlmhbhngaaPFnComplainx4
namespace Go.Proofs.Ytckhadlmhbhngaa.PFnComplain
open Go.RowKit Go.Proofs.YtckhadlmhbhngaaW.PrintWords Go.Proofs.YtckhadlmhbhngaaW.PrintLast Go.Proofs.YtckhadlmhbhngaaW.PrintMore
attribute [local go_sem] max2_int min2_int max_two min_two max_three min_three max_four min_four   -- for this text's walks alone
set_option linter.unusedVariables false
set_option linter.unusedSimpArgs false

/-! ### impl_EncodeIP: function 8 -/
def impl_EncodeIP.f (k : Nat) (ab : Int) (ac : Int) (ad : Bool) (ae : Bool) (af : Int) (ag : Int) (ah : Int) (ai : Int) (aj : Int) (ak : List Int) (aa : List Int) : Option (List Int × Int) := (impl_codeIP.f ab ac ad ae af ag ah ai aj ak aa).bind fun al => (if al = 0 then ((impl_headIP.f k ab ac ad ae af ag ah ai aj ak aa).bind fun am => (if am.length + aa.length < 140737488355328 then (some ((am ++ aa), 0)) else (none))) else (some (([] : List Int), al)))
theorem impl_EncodeIP.mono : ∀ a0 a1 a2 a3 a4 a5 a6 a7 a8 a9 aa k, LeO (impl_EncodeIP.f k a0 a1 a2 a3 a4 a5 a6 a7 a8 a9 aa) (impl_EncodeIP.f (k + 1) a0 a1 a2 a3 a4 a5 a6 a7 a8 a9 aa) := by
 intro a0 a1 a2 a3 a4 a5 a6 a7 a8 a9 aa k
 unfold impl_EncodeIP.f
 repeat' first
     | (with_reducible exact impl_headIP.mono _ _ _ _ _ _ _ _ _ _ _ _)
     | (with_reducible exact LeO.refl _)
     | (with_reducible exact LeO.none _)
     | (with_reducible refine LeO.ite ?_ ?_)
     | (with_reducible refine LeO.bind ?_ (fun _ => ?_))
     | exact impl_headIP.mono _ _ _ _ _ _ _ _ _ _ _ _
     | exact LeO.none _
     | refine LeO.ite ?_ ?_
     | refine LeO.bind ?_ (fun _ => ?_)
set_option maxHeartbeats 60000000 in
set_option maxRecDepth 100000 in
theorem impl_EncodeIP.calls (k : Nat) (ae : Int) (af : Int) (ag : Bool) (ah : Bool) (ai : Int) (aj : Int) (ak : Int) (al : Int) (am : Int) (A0_9 : Option Addr) (ar : Nat) (ad : List Int) (A0_10 : Option Addr) (ao : Nat) (ab : List Int) (r1 : List Int) (r2 : Int) (w : World) (hr0_9 : Kd.C (Kd.int .u8) w A0_9 ad.length ad) (hc0_9 : ad.length ≤ ar) (hr0_10 : Kd.C (Kd.int .u8) w A0_10 ab.length ab) (hc0_10 : ab.length ≤ ao) (h : impl_EncodeIP.f k ae af ag ah ai aj ak al am ad ab = some (r1, r2)) :
 Calls Try.prog 8 #[.agg #[.int .i64 ae, .int .i64 af, .bool ag, .bool ah, .int .i64 ai, .int .i64 aj, .int .i64 ak, .int .i64 al, .int .i64 am, .slice A0_9 ad.length ar, .slice A0_10 ab.length ao]] w fun e w' => ∃ v0_ : Value, e = .returned (.tuple #[v0_, .int .i64 r2]) ∧ Kd.R (Kd.int .u8) 5 w' w.heap.size (fun _ => True) v0_ r1 ∧ Below w.heap.size w w' := by
 have hu25 := Try.underlying25
 have HR0_9 := Aside0.mk hr0_9
 have aw := Aside0.mk hc0_9
 clear hr0_9 hc0_9
 have HR0_10 := Aside0.mk hr0_10
 have av := Aside0.mk hc0_10
 clear hr0_10 hc0_10
 have HB := Aside0.mk (Below.refl w.heap.size w)
 have H : ((impl_codeIP.f ae af ag ah ai aj ak al am ad ab).bind fun an => (if an = 0 then ((impl_headIP.f k ae af ag ah ai aj ak al am ad ab).bind fun ap => (if ap.length + ab.length < 140737488355328 then (some ((ap ++ ab), 0)) else (none))) else (some (([] : List Int), an)))) = some (r1, r2) := h
 clear h
 replace H := Option.bind_eq_some_iff.mp H
 obtain ⟨an, A20, H⟩ := H
 have A2 := Aside0.mk A20
 clear A20
 by_cases c3 : an = 0
 rw [if_pos c3] at H
 have c3b0 : (an == 0) = true := beq_iff_eq.mpr c3
 have c3b1 : (an != 0) = false := bne_eq_false_iff_eq.mpr c3
 clear c3
 replace H := Option.bind_eq_some_iff.mp H
 obtain ⟨ap, A40, H⟩ := H
 have A4 := Aside0.mk A40
 clear A40
 by_cases c5 : ap.length + ab.length < 140737488355328
 rw [if_pos c5] at H
 have LMc5 := Aside0.mk c5
 clear c5
 obtain ⟨a3, aq⟩ : ∃ y_ : List Int, y_ = (ap ++ ab) := ⟨_, rfl⟩
 replace H : (some (a3, 0)) = some (r1, r2) := by first | (rw [aq]; with_reducible exact H) | (have H2_ := (Option.bind_some _ _).symm.trans H; rw [aq]; with_reducible exact H2_) | (have H2_ := (Option.bind_some _ _).symm.trans H; with_reducible exact H2_) | with_reducible exact H | (rw [aq]; exact H) | exact H
 have Ny179 := Aside0.mk aq
 clear aq
 simp only [Option.some.injEq, Prod.mk.injEq] at H
 obtain ⟨rfl, rfl⟩ := H
 rotate_left
 rw [if_neg c5] at H
 exact absurd H (by simp)
 rw [if_neg c3] at H
 have c3b0 : (an == 0) = false := beq_eq_false_iff_ne.mpr c3
 have c3b1 : (an != 0) = true := bne_iff_ne.mpr c3
 simp only [Option.some.injEq, Prod.mk.injEq] at H
 obtain ⟨rfl, rfl⟩ := H
 rotate_left
 all_goals (
 go_enter Try.func8, Try.ntmps8
 try go_wp2_with (first | ((with_reducible refine gate_dst (N := 1) rfl ?_); refine boxE 1 #[.int .i64 ae, .int .i64 af, .bool ag, .bool ah, .int .i64 ai, .int .i64 aj, .int .i64 ak, .int .i64 al, .int .i64 am, .slice A0_9 ad.length ar, .slice A0_10 ab.length ao] 25 ?_; intro ac hg a6 hbox hb; have aa := Aside0.mk (hbox); have ax := Aside0.mk ((by rw [hg]; exact (below_size wB) : w.heap.size ≤ ac)); replace HB := Aside0.mk (below_step wB hb); have a7 := ax; clear hb hbox hg; obtain ⟨⟨aD, aE, aG, aH, aI, aJ, aK, aM, aN, aP, ay⟩, aQ, aT, aU, aV, aW, aX, aY, aZ, a0, a1, az⟩ := cells11 aa.out) | ((with_reducible refine gate_callee (f := 41) rfl ?_); refine gL (some 6) Try.func41 #[.agg #[.int .i64 ae, .int .i64 af, .bool ag, .bool ah, .int .i64 ai, .int .i64 aj, .int .i64 ak, .int .i64 al, .int .i64 am, .slice A0_9 ad.length ar, .slice A0_10 ab.length ao]] ?_; (with_reducible refine (impl_codeIP.calls ae af ag ah ai aj ak al am _ _ ad _ _ ab an _ ?side1 ?side2 ?side3 ?side4 A2.out).mono ?_); (case side1 => exact Kd.C_below HR0_9.out wB); (case side2 => exact aw.out); (case side3 => exact Kd.C_below HR0_10.out wB); (case side4 => exact av.out); rintro e aA ⟨rfl, hb⟩; refine ⟨_, rfl, ?_⟩; replace aa := Aside0.mk (blk_below (Bh aa) hb); replace HB := Aside0.mk (below_step wB hb); clear hb))
 )
 {
 have n0_ := Aside0.mk (blk_drew aa.out)
 have n1_ := Aside0.mk (below_drew1 HB.out)
 clear aa
 clear HB
 have aa := n0_
 have HB := n1_
 clear n0_ n1_
 refine start_ (n := 7) (S := fun w' => w'.cell? ⟨ac, 0, none⟩ = some (.int .i64 ae) ∧ w'.cell? ⟨ac, 1, none⟩ = some (.int .i64 af) ∧ w'.cell? ⟨ac, 2, none⟩ = some (.bool ag) ∧ w'.cell? ⟨ac, 3, none⟩ = some (.bool ah) ∧ w'.cell? ⟨ac, 4, none⟩ = some (.int .i64 ai) ∧ w'.cell? ⟨ac, 5, none⟩ = some (.int .i64 aj) ∧ w'.cell? ⟨ac, 6, none⟩ = some (.int .i64 ak) ∧ w'.cell? ⟨ac, 7, none⟩ = some (.int .i64 al) ∧ w'.cell? ⟨ac, 8, none⟩ = some (.int .i64 am) ∧ w'.cell? ⟨ac, 9, none⟩ = some (.slice A0_9 ad.length ar) ∧ w'.cell? ⟨ac, 10, none⟩ = some (.slice A0_10 ab.length ao)) (ds := []) #[false, false, false, false, false, false, false] (by kernel_rfl) rfl rfl ⟨(blk_cell aa.out 0).trans rfl, (blk_cell aa.out 1).trans rfl, (blk_cell aa.out 2).trans rfl, (blk_cell aa.out 3).trans rfl, (blk_cell aa.out 4).trans rfl, (blk_cell aa.out 5).trans rfl, (blk_cell aa.out 6).trans rfl, (blk_cell aa.out 7).trans rfl, (blk_cell aa.out 8).trans rfl, (blk_cell aa.out 9).trans rfl, (blk_cell aa.out 10).trans rfl⟩ (fun hHeld => ?_)
 generalize aA.drew = a8 at aa HB hHeld ⊢
 refine pure_ (i := 2) (N := some 12) (v := ?_) (a' := ?_) #[false, false, true, false, false, false, false] rfl rfl (by kernel_rfl) (fun _ _ _ h => h) (Or.inl ⟨by rfl, ?_⟩) ?_ ?_
 rotate_left
 {
 intro w'
 go_simp
 with_reducible rfl
 }
 rotate_left
 {
 simp only [Act.put, List.setIfInBounds_toArray, List.set_cons_zero, List.set_cons_succ, i64_w, i32_w]
 rfl
 }
 refine take_ (i := 0) (N := some 10) (v := ?_) (a' := ?_) #[true, false, true, false, false, false, false] rfl rfl (by kernel_rfl) (fun _ _ _ h => h) (Or.inl ⟨by rfl, ?_⟩) hHeld ?_ ?_
 rotate_left
 {
 rintro w' ⟨s0, s1, s2, s3, s4, s5, s6, s7, s8, s9, a5⟩
 go_simp
 with_reducible rfl
 }
 rotate_left
 {
 simp only [Act.put, List.setIfInBounds_toArray, List.set_cons_zero, List.set_cons_succ, i64_w, i32_w]
 rfl
 }
 refine take_ (i := 3) (N := some 13) (v := ?_) (a' := ?_) #[true, false, true, true, false, false, false] rfl rfl (by kernel_rfl) (fun _ _ _ h => h) (Or.inl ⟨by rfl, ?_⟩) hHeld ?_ ?_
 rotate_left
 {
 rintro w' ⟨s0, s1, s2, s3, s4, s5, s6, s7, s8, s9, a5⟩
 go_simp
 with_reducible rfl
 }
 rotate_left
 {
 simp only [Act.put, List.setIfInBounds_toArray, List.set_cons_zero, List.set_cons_succ, i64_w, i32_w]
 rfl
 }
 refine one_ (i := 1) (N := some 11) #[true, true, true, true, false, false, false] rfl rfl (by kernel_rfl) (by decide) (fun K hK => ?_)
 refine goes_ Try.func42 (by kernel_rfl) rfl #[.agg #[.int .i64 ae, .int .i64 af, .bool ag, .bool ah, .int .i64 ai, .int .i64 aj, .int .i64 ak, .int .i64 al, .int .i64 am, .slice A0_9 ad.length ar, .slice A0_10 ab.length ao]] (by rfl) rfl rfl wT ?_
 with_reducible refine (impl_headIP.calls k ae af ag ah ai aj ak al am _ _ ad _ _ ab ap _ ?side1 ?side2 ?side3 ?side4 A4.out).mono ?_
 (case side1 => exact Kd.C_below HR0_9.out wB)
 (case side2 => exact aw.out)
 (case side3 => exact Kd.C_below HR0_10.out wB)
 (case side4 => exact av.out)
 rintro e a9 ⟨a4, rfl, a2, hb⟩
 refine ⟨_, rfl, ?_⟩
 have n0_ := Aside0.mk (Kd.R_lower a2 (below_size wB))
 have n1_ := Aside0.mk (blk_below (Bh aa) hb)
 have n2_ := Aside0.mk (below_step wB hb)
 clear aa
 clear HB
 have au := n0_
 have aa := n1_
 have HB := n2_
 clear n0_ n1_ n2_
 (try clear hb)
 (try clear hb2)
 (try clear hk)
 (try clear hi)
 (try clear a2)
 refine hK.out _ _ ⟨(blk_cell aa.out 0).trans rfl, (blk_cell aa.out 1).trans rfl, (blk_cell aa.out 2).trans rfl, (blk_cell aa.out 3).trans rfl, (blk_cell aa.out 4).trans rfl, (blk_cell aa.out 5).trans rfl, (blk_cell aa.out 6).trans rfl, (blk_cell aa.out 7).trans rfl, (blk_cell aa.out 8).trans rfl, (blk_cell aa.out 9).trans rfl, (blk_cell aa.out 10).trans rfl⟩ (fun hHeld => ?_)
 clear hK K
 refine norm_ (a' := ?_) ?_ ?_
 rotate_left
 {
 show Act.put _ (some 11) _ = _
 simp only [Act.put, List.setIfInBounds_toArray, List.set_cons_zero, List.set_cons_succ, i64_w, i32_w]
 rfl
 }
 refine one_ (i := 4) (N := some 14) #[true, true, true, true, true, false, false] rfl rfl (by kernel_rfl) (by decide) (fun K hK => ?_)
 refine Kd.R_append_rows_step (Kd.int .u8) (w0 := w) w.heap.size (by rfl) (.tmp 11) (.tmp 13) 22 5 (.int .u8 0) 1 rfl Try.underlying22 info5 rfl (by decide) (by omega) a4 ap ab _ _ _ (fun _ => True) (fun _ => False) rfl rfl ?aO ?aR (fun _ _ h => h) (fun _ h => h.elim) ?aF ?aB ?aS ?aL ?_
 (case aR => exact Kd.C_below HR0_10.out wB)
 (case aB => exact wB)
 (case aF => exact (fun _ _ => trivial))
 (case aO => exact (Rh au))
 (case aS => exact (below_size wB))
 (case aL => have := LMc5.out; omega)
 intro bb ba ho hb hg hat
 rw [← Ny179.out] at ho
 have n0_ := Aside0.mk (blk_grown (Bh aa) hg (Kd.R_ne au.out aa.out (by decide)))
 have n1_ := Aside0.mk (hb)
 have n2_ := Aside0.mk (ho)
 clear aa
 clear HB
 clear au
 have aa := n0_
 have HB := n1_
 have aC := n2_
 clear n0_ n1_ n2_
 clear ho hb hg hat
 refine hK.out _ _ ⟨(blk_cell aa.out 0).trans rfl, (blk_cell aa.out 1).trans rfl, (blk_cell aa.out 2).trans rfl, (blk_cell aa.out 3).trans rfl, (blk_cell aa.out 4).trans rfl, (blk_cell aa.out 5).trans rfl, (blk_cell aa.out 6).trans rfl, (blk_cell aa.out 7).trans rfl, (blk_cell aa.out 8).trans rfl, (blk_cell aa.out 9).trans rfl, (blk_cell aa.out 10).trans rfl⟩ (fun hHeld => ?_)
 clear hK K
 refine norm_ (a' := ?_) ?_ ?_
 rotate_left
 {
 show Act.put _ (some 14) _ = _
 simp only [Act.put, List.setIfInBounds_toArray, List.set_cons_zero, List.set_cons_succ, i64_w, i32_w]
 rfl
 }
 refine pure_ (i := 5) (N := some 2) (v := ?_) (a' := ?_) #[true, true, true, true, true, true, false] rfl rfl (by kernel_rfl) (fun _ _ _ h => h) (Or.inl ⟨by rfl, ?_⟩) ?_ ?_
 rotate_left
 {
 intro w'
 go_simp
 with_reducible rfl
 }
 rotate_left
 {
 simp only [Act.put, List.setIfInBounds_toArray, List.set_cons_zero, List.set_cons_succ, i64_w, i32_w]
 rfl
 }
 refine pure_ (i := 6) (N := some 3) (v := ?_) (a' := ?_) #[true, true, true, true, true, true, true] rfl rfl (by kernel_rfl) (fun _ _ _ h => h) (Or.inl ⟨by rfl, ?_⟩) ?_ ?_
 rotate_left
 {
 intro w'
 go_simp
 with_reducible rfl
 }
 rotate_left
 {
 simp only [Act.put, List.setIfInBounds_toArray, List.set_cons_zero, List.set_cons_succ, i64_w, i32_w]
 rfl
 }
 refine done_ (by kernel_rfl) ?_
 try go_wp2
 go_ret2
 exact ⟨_, eR, by (with_reducible repeat (first | apply Kd.R_alloc | apply Kd.R_drewN | apply Kd.R_drew)); exact aC.out, wB⟩
 }
 {
 go_ret2
 exact ⟨_, eR, by first | exact Kd.R_nil _ _ _ _ _ | exact Kd.N_nil _ _ _ _ _ | exact Kd.V_nil _ _ _ _ _ | exact Kd.Q_nil _ _ _ _ _ | exact Kd.S_nil _ _ _ _ _, wB⟩
 }

/-! ### laws_lwSame: function 19 -/
def laws_lwSame.f (l0 : List Int) (l1 : List Int) : Option (Bool) := some ((strOfNums l0).toList == (strOfNums l1).toList)
set_option maxHeartbeats 60000000 in
set_option maxRecDepth 100000 in
theorem laws_lwSame.calls (A0 : Option Addr) (c0 : Nat) (l0 : List Int) (A1 : Option Addr) (c1 : Nat) (l1 : List Int) (r : Bool) (w : World) (hr0 : Kd.C (Kd.int .u8) w A0 l0.length l0) (hc0 : l0.length ≤ c0) (hr1 : Kd.C (Kd.int .u8) w A1 l1.length l1) (hc1 : l1.length ≤ c1) (h : laws_lwSame.f l0 l1 = some r) :
 Calls Try.prog 19 #[.slice A0 l0.length c0, .slice A1 l1.length c1] w fun e w' => e = .returned (.bool r) ∧ Drawn0 w w' := by
 have HR0 := Aside0.mk hr0
 have aa := Aside0.mk hc0
 clear hr0 hc0
 have HR1 := Aside0.mk hr1
 have ab := Aside0.mk hc1
 clear hr1 hc1
 have H : (some ((strOfNums l0).toList == (strOfNums l1).toList)) = some r := h
 clear h
 obtain rfl := Option.some.inj H
 have hcv1001 := Kd.C_string (P := Try.prog) (A := A0) (c := c0) Try.underlying22 Try.underlying5 Try.underlying9 HR0.out
 have hcv1002 := Kd.C_string (P := Try.prog) (A := A1) (c := c1) Try.underlying22 Try.underlying5 Try.underlying9 HR1.out
 go_enter Try.func19, Try.ntmps19
 go_wp2
 go_ret
 exact ⟨by first | rfl | (simp; done) | (simp [*]; done), by repeat (first | exact Drawn0.refl _ | apply Drawn0.step)⟩

/-! ### laws_lwPacket: function 9 -/
def laws_lwPacket.f (ac : Int) (ad : Int) (ae : Bool) (af : Bool) (ag : Int) (ah : Int) (ai : Int) (aj : Int) (ak : Int) (al : List Int) (aa : List Int) (am : Int) (an : Int) (ao : Bool) (ap : Bool) (aq : Int) (ar : Int) (au : Int) (av : Int) (aw : Int) (ax : List Int) (ab : List Int) : Option (Bool) := if ac = am then (if ad = an then (if (ae == ao) = true then (if (af == ap) = true then (if ag = aq then (if ah = ar then (if ai = au then (if aj = av then (if ak = aw then ((laws_lwSame.f al ax).bind fun ay => (if ay = true then ((laws_lwSame.f aa ab).bind fun az => (some az)) else (some false))) else (some false)) else (some false)) else (some false)) else (some false)) else (some false)) else (some false)) else (some false)) else (some false)) else (some false)
set_option maxHeartbeats 60000000 in
set_option maxRecDepth 100000 in
theorem laws_lwPacket.calls (ag : Int) (ah : Int) (aa : Bool) (ab : Bool) (ai : Int) (aj : Int) (ak : Int) (al : Int) (am : Int) (A0_9 : Option Addr) (aG : Nat) (aw : List Int) (A0_10 : Option Addr) (aD : Nat) (ae : List Int) (an : Int) (ao : Int) (ac : Bool) (ad : Bool) (ap : Int) (aq : Int) (ar : Int) (au : Int) (av : Int) (A1_9 : Option Addr) (aH : Nat) (ax : List Int) (A1_10 : Option Addr) (aE : Nat) (af : List Int) (r : Bool) (w : World) (hr0_9 : Kd.C (Kd.int .u8) w A0_9 aw.length aw) (hc0_9 : aw.length ≤ aG) (hr0_10 : Kd.C (Kd.int .u8) w A0_10 ae.length ae) (hc0_10 : ae.length ≤ aD) (hr1_9 : Kd.C (Kd.int .u8) w A1_9 ax.length ax) (hc1_9 : ax.length ≤ aH) (hr1_10 : Kd.C (Kd.int .u8) w A1_10 af.length af) (hc1_10 : af.length ≤ aE) (h : laws_lwPacket.f ag ah aa ab ai aj ak al am aw ae an ao ac ad ap aq ar au av ax af = some r) :
 Calls Try.prog 9 #[.agg #[.int .i64 ag, .int .i64 ah, .bool aa, .bool ab, .int .i64 ai, .int .i64 aj, .int .i64 ak, .int .i64 al, .int .i64 am, .slice A0_9 aw.length aG, .slice A0_10 ae.length aD], .agg #[.int .i64 an, .int .i64 ao, .bool ac, .bool ad, .int .i64 ap, .int .i64 aq, .int .i64 ar, .int .i64 au, .int .i64 av, .slice A1_9 ax.length aH, .slice A1_10 af.length aE]] w fun e w' => e = .returned (.bool r) ∧ Below w.heap.size w w' := by
 have hu25 := Try.underlying25
 have HR0_9 := Aside0.mk hr0_9
 have aO := Aside0.mk hc0_9
 clear hr0_9 hc0_9
 have HR0_10 := Aside0.mk hr0_10
 have aM := Aside0.mk hc0_10
 clear hr0_10 hc0_10
 have HR1_9 := Aside0.mk hr1_9
 have aP := Aside0.mk hc1_9
 clear hr1_9 hc1_9
 have HR1_10 := Aside0.mk hr1_10
 have aN := Aside0.mk hc1_10
 clear hr1_10 hc1_10
 have HB := Aside0.mk (Below.refl w.heap.size w)
 have H : (if ag = an then (if ah = ao then (if (aa == ac) = true then (if (ab == ad) = true then (if ai = ap then (if aj = aq then (if ak = ar then (if al = au then (if am = av then ((laws_lwSame.f aw ax).bind fun aI => (if aI = true then ((laws_lwSame.f ae af).bind fun aA => (some aA)) else (some false))) else (some false)) else (some false)) else (some false)) else (some false)) else (some false)) else (some false)) else (some false)) else (some false)) else (some false)) = some r := h
 clear h
 by_cases c3 : ag = an
 rw [if_pos c3] at H
 have c3b0 : (ag == an) = true := beq_iff_eq.mpr c3
 have c3b1 : (ag != an) = false := bne_eq_false_iff_eq.mpr c3
 clear c3
 by_cases c4 : ah = ao
 rw [if_pos c4] at H
 have c4b0 : (ah == ao) = true := beq_iff_eq.mpr c4
 have c4b1 : (ah != ao) = false := bne_eq_false_iff_eq.mpr c4
 clear c4
 by_cases c5 : (aa == ac) = true
 rw [if_pos c5] at H
 have c5b0 : (aa == ac) = true := c5
 (try (have c5b1 : decide (aa = ac) = true := by simpa using c5))
 (try (have c5b2 : (aa == ac) = true := by simpa using c5))
 clear c5
 by_cases c6 : (ab == ad) = true
 rw [if_pos c6] at H
 have c6b0 : (ab == ad) = true := c6
 (try (have c6b1 : decide (ab = ad) = true := by simpa using c6))
 (try (have c6b2 : (ab == ad) = true := by simpa using c6))
 clear c6
 by_cases c7 : ai = ap
 rw [if_pos c7] at H
 have c7b0 : (ai == ap) = true := beq_iff_eq.mpr c7
 have c7b1 : (ai != ap) = false := bne_eq_false_iff_eq.mpr c7
 clear c7
 by_cases c8 : aj = aq
 rw [if_pos c8] at H
 have c8b0 : (aj == aq) = true := beq_iff_eq.mpr c8
 have c8b1 : (aj != aq) = false := bne_eq_false_iff_eq.mpr c8
 clear c8
 by_cases c9 : ak = ar
 rw [if_pos c9] at H
 have c9b0 : (ak == ar) = true := beq_iff_eq.mpr c9
 have c9b1 : (ak != ar) = false := bne_eq_false_iff_eq.mpr c9
 clear c9
 by_cases aB : al = au
 rw [if_pos aB] at H
 have c10b0 : (al == au) = true := beq_iff_eq.mpr aB
 have c10b1 : (al != au) = false := bne_eq_false_iff_eq.mpr aB
 clear aB
 by_cases aC : am = av
 rw [if_pos aC] at H
 have c11b0 : (am == av) = true := beq_iff_eq.mpr aC
 have c11b1 : (am != av) = false := bne_eq_false_iff_eq.mpr aC
 clear aC
 replace H := Option.bind_eq_some_iff.mp H
 obtain ⟨aI, A120, H⟩ := H
 have A12 := Aside0.mk A120
 clear A120
 by_cases aJ : aI = true
 subst aJ
 have H1 : ((laws_lwSame.f ae af).bind fun aA => (some aA)) = some r := by rw [if_pos rfl] at H; exact H
 clear H
 have H := H1
 clear H1
 replace H := Option.bind_eq_some_iff.mp H
 obtain ⟨aA, A140, H⟩ := H
 have A14 := Aside0.mk A140
 clear A140
 obtain rfl := Option.some.inj H
 rotate_left
 replace aJ := Bool.eq_false_iff.mpr aJ
 subst aJ
 have H1 : (some false) = some r := by rw [if_neg (show ¬ (false = true) by decide)] at H; exact H
 clear H
 have H := H1
 clear H1
 obtain rfl := Option.some.inj H
 rotate_left
 rw [if_neg aC] at H
 have c11b0 : (am == av) = false := beq_eq_false_iff_ne.mpr aC
 have c11b1 : (am != av) = true := bne_iff_ne.mpr aC
 obtain rfl := Option.some.inj H
 rotate_left
 rw [if_neg aB] at H
 have c10b0 : (al == au) = false := beq_eq_false_iff_ne.mpr aB
 have c10b1 : (al != au) = true := bne_iff_ne.mpr aB
 obtain rfl := Option.some.inj H
 rotate_left
 rw [if_neg c9] at H
 have c9b0 : (ak == ar) = false := beq_eq_false_iff_ne.mpr c9
 have c9b1 : (ak != ar) = true := bne_iff_ne.mpr c9
 obtain rfl := Option.some.inj H
 rotate_left
 rw [if_neg c8] at H
 have c8b0 : (aj == aq) = false := beq_eq_false_iff_ne.mpr c8
 have c8b1 : (aj != aq) = true := bne_iff_ne.mpr c8
 obtain rfl := Option.some.inj H
 rotate_left
 rw [if_neg c7] at H
 have c7b0 : (ai == ap) = false := beq_eq_false_iff_ne.mpr c7
 have c7b1 : (ai != ap) = true := bne_iff_ne.mpr c7
 obtain rfl := Option.some.inj H
 rotate_left
 rw [if_neg c6] at H
 have c6b0 : (ab == ad) = false := by simpa using c6
 (try (have c6b1 : decide (ab = ad) = false := by simpa using c6))
 (try (have c6b2 : (ab == ad) = false := by simpa using c6))
 (try (have c6b3 : ¬ (ab = ad) := by simpa using c6))
 clear c6
 obtain rfl := Option.some.inj H
 rotate_left
 rw [if_neg c5] at H
 have c5b0 : (aa == ac) = false := by simpa using c5
 (try (have c5b1 : decide (aa = ac) = false := by simpa using c5))
 (try (have c5b2 : (aa == ac) = false := by simpa using c5))
 (try (have c5b3 : ¬ (aa = ac) := by simpa using c5))
 clear c5
 obtain rfl := Option.some.inj H
 rotate_left
 rw [if_neg c4] at H
 have c4b0 : (ah == ao) = false := beq_eq_false_iff_ne.mpr c4
 have c4b1 : (ah != ao) = true := bne_iff_ne.mpr c4
 obtain rfl := Option.some.inj H
 rotate_left
 rw [if_neg c3] at H
 have c3b0 : (ag == an) = false := beq_eq_false_iff_ne.mpr c3
 have c3b1 : (ag != an) = true := bne_iff_ne.mpr c3
 obtain rfl := Option.some.inj H
 rotate_left
 all_goals (
 go_enter Try.func9, Try.ntmps9
 go_wp2_with (first | ((with_reducible refine gate_dst (N := 2) rfl ?_); refine boxE 2 #[.int .i64 ag, .int .i64 ah, .bool aa, .bool ab, .int .i64 ai, .int .i64 aj, .int .i64 ak, .int .i64 al, .int .i64 am, .slice A0_9 aw.length aG, .slice A0_10 ae.length aD] 25 ?_; intro aK hg bG hbox hb; have az := Aside0.mk (hbox); have aQ := Aside0.mk ((by rw [hg]; exact (below_size wB) : w.heap.size ≤ aK)); replace HB := Aside0.mk (below_step wB hb); have bH := aQ; clear hb hbox hg) | ((with_reducible refine gate_dst (N := 3) rfl ?_); refine boxE 3 #[.int .i64 an, .int .i64 ao, .bool ac, .bool ad, .int .i64 ap, .int .i64 aq, .int .i64 ar, .int .i64 au, .int .i64 av, .slice A1_9 ax.length aH, .slice A1_10 af.length aE] 25 ?_; intro aL hg bI hbox hb; have aR := Aside0.mk (hbox); have aS := Aside0.mk ((by rw [hg]; exact (below_size wB) : w.heap.size ≤ aL)); replace HB := Aside0.mk (below_step wB hb); have bJ := aS; have ay := Aside0.mk ((by rw [hg]; exact Nat.ne_of_lt (blk_lt (Bh az)) : aK ≠ aL)); replace az := Aside0.mk (blk_below (Bh az) hb); have aF := Aside0.mk ay.out.symm; clear hb hbox hg; have bE := ay.out; have bF := aF.out; obtain ⟨⟨aX, aY, aZ, a0, a1, a2, a3, a4, a5, a6, aT⟩, a7, a8, a9, ba, bb, bc, bd, be, bf, bg, aU⟩ := cells11 az.out; obtain ⟨⟨bh, bi, bj, bk, bl, bm, bn, bo, bp, bq, aV⟩, br, bs, bu, bv, bw, bz, bA, bB, bC, bD, aW⟩ := cells11 aR.out) | (go_at_call 19; (with_reducible refine (laws_lwSame.calls _ _ aw _ _ ax _ _ ?side1 ?side2 ?side3 ?side4 A12.out).mono ?_); (case side1 => exact Kd.C_below HR0_9.out wB); (case side2 => exact aO.out); (case side3 => exact Kd.C_below HR1_9.out wB); (case side4 => exact aP.out); rintro e w' ⟨rfl, ⟨nd, rfl⟩⟩) | (go_at_call 19; (with_reducible refine (laws_lwSame.calls _ _ ae _ _ af aA _ ?side1 ?side2 ?side3 ?side4 A14.out).mono ?_); (case side1 => repeat (first | exact (Kd.C_below HR0_10.out wB) | (with_reducible refine Kd.C_alloc ?_ _) | (with_reducible refine Kd.C_drewN ?_ _) | (with_reducible refine Kd.C_drew ?_))); (case side2 => exact aM.out); (case side3 => repeat (first | exact (Kd.C_below HR1_10.out wB) | (with_reducible refine Kd.C_alloc ?_ _) | (with_reducible refine Kd.C_drewN ?_ _) | (with_reducible refine Kd.C_drew ?_))); (case side4 => exact aN.out); rintro e w' ⟨rfl, ⟨nd, rfl⟩⟩))
 go_ret
 exact ⟨eR, wB⟩
 )

/-- A state of type 61 at block g of W; what its slices lead to came in by w0. -/
def IsS61 (w0 W : World) (g : Nat) (f0 : List Int) (f1 : Int) (f2 : Int) : Prop := ∃ A0 c0, W.heap[g]? = some (.cells #[.slice A0 f0.length c0, .int .i64 f1, .int .u64 f2] 61 (0, 0)) ∧ w0.heap.size ≤ g ∧ Kd.C (Kd.int .u8) w0 A0 f0.length f0
theorem IsS61.grown {w0 W : World} {g : Nat} {f0 : List Int} {f1 : Int} {f2 : Int} {W1 : World} {row : Option Nat} (h : IsS61 w0 W g f0 f1 f2) (hw : W.grownBy W1 row) (hne : some g ≠ row) : IsS61 w0 W1 g f0 f1 f2 := by
 obtain ⟨A0, c0, hb, hg, hr0⟩ := h
 exact ⟨A0, c0, blk_grown hb hw hne, hg, hr0⟩
theorem IsS61.own_neN {w0 W : World} {g : Nat} {f0 : List Int} {f1 : Int} {f2 : Int} {α : Type} {d : Kd α} {e : Nat} {base : Nat} {ok : Nat → Prop} {v : Value} {xs : List α} (h : IsS61 w0 W g f0 f1 f2) (ho : Kd.N d e W base ok v xs) (ht : e ≠ 61) : some g ≠ v.ownBlock := by
 obtain ⟨A0, c0, hb, hg, hr0⟩ := h
 exact Kd.N_ne ho hb ht
theorem IsS61.fresh {w0 W : World} {g : Nat} {f0 : List Int} {f1 : Int} {f2 : Int} (h : IsS61 w0 W g f0 f1 f2) : ∀ k, W.heap.size ≤ k → k ≠ g := by
 obtain ⟨A0, c0, hb, hg, hr0⟩ := h
 exact Kd.freshB hb
theorem IsS61.kept {w0 W : World} {g : Nat} {f0 : List Int} {f1 : Int} {f2 : Int} {W1 : World} {S : Nat → Prop} (h : IsS61 w0 W g f0 f1 f2) (hk : Kept W W1 S) (hne : ¬ S g) : IsS61 w0 W1 g f0 f1 f2 := by
 obtain ⟨A0, c0, hb, hg, hr0⟩ := h
 exact ⟨A0, c0, blk_kept hb hk hne, hg, hr0⟩
theorem IsS61.below {w0 W : World} {g : Nat} {f0 : List Int} {f1 : Int} {f2 : Int} {W1 : World} (h : IsS61 w0 W g f0 f1 f2) (hw : Below W.heap.size W W1) : IsS61 w0 W1 g f0 f1 f2 := h.grown (grown_of_below hw none) (by simp)
theorem IsS61.alloc {w0 W : World} {g : Nat} {f0 : List Int} {f1 : Int} {f2 : Int} (h : IsS61 w0 W g f0 f1 f2) (o : Obj) : IsS61 w0 (W.alloc o) g f0 f1 f2 := h.below (below_alloc (Below.refl _ _) o)
theorem IsS61.drewN {w0 W : World} {g : Nat} {f0 : List Int} {f1 : Int} {f2 : Int} (h : IsS61 w0 W g f0 f1 f2) (m : Nat) : IsS61 w0 (W.drewN m) g f0 f1 f2 := h
theorem IsS61.drew {w0 W : World} {g : Nat} {f0 : List Int} {f1 : Int} {f2 : Int} (h : IsS61 w0 W g f0 f1 f2) : IsS61 w0 W.drew g f0 f1 f2 := h
theorem IsS61.at_ {w0 W : World} {g : Nat} {f0 : List Int} {f1 : Int} {f2 : Int} {w' : World} {m : Nat} (hq : W.drewN m = w') (h : IsS61 w0 W g f0 f1 f2) : IsS61 w0 w' g f0 f1 f2 := by subst hq; exact IsS61.drewN h m
theorem IsS61.apart {w0 W : World} {g : Nat} {f0 : List Int} {f1 : Int} {f2 : Int} {α : Type} {d : Kd α} {e : Nat} {base : Nat} {ok : Nat → Prop} {v : Value} {xs : List α} (h : IsS61 w0 W g f0 f1 f2) (ho : d.R e W base ok v xs) (ht : ∀ q, q ∈ e :: d.E → q ≠ 61) : d.R e W base (fun k => ok k ∧ k ≠ g) v xs := by
 obtain ⟨A0, c0, hb, hg, hr0⟩ := h
 exact Kd.R_types ho hb ht
theorem IsS61.own_ne {w0 W : World} {g : Nat} {f0 : List Int} {f1 : Int} {f2 : Int} {α : Type} {d : Kd α} {e : Nat} {base : Nat} {ok : Nat → Prop} {v : Value} {xs : List α} (h : IsS61 w0 W g f0 f1 f2) (ho : d.R e W base ok v xs) (ht : e ≠ 61) : some g ≠ v.ownBlock := by
 obtain ⟨A0, c0, hb, hg, hr0⟩ := h
 exact Kd.R_ne ho hb ht
theorem IsS61.apartQ {w0 W : World} {g : Nat} {f0 : List Int} {f1 : Int} {f2 : Int} {α : Type} {d : Kd α} {e : Nat} {base : Nat} {ok : Nat → Prop} {v : Value} {xs : List α} (h : IsS61 w0 W g f0 f1 f2) (ho : d.Q e W base ok v xs) (ht : ∀ q, q ∈ e :: d.E → q ≠ 61) : d.Q e W base (fun k => ok k ∧ k ≠ g) v xs := by
 obtain ⟨A0, c0, hb, hg, hr0⟩ := h
 exact Kd.Q_types ho hb ht
theorem IsS61.own_neQ {w0 W : World} {g : Nat} {f0 : List Int} {f1 : Int} {f2 : Int} {α : Type} {d : Kd α} {e : Nat} {base : Nat} {ok : Nat → Prop} {v : Value} {xs : List α} (h : IsS61 w0 W g f0 f1 f2) (ho : d.Q e W base ok v xs) (ht : e ≠ 61) : some g ≠ v.ownBlock := by
 obtain ⟨A0, c0, hb, hg, hr0⟩ := h
 exact Kd.Q_ne ho hb ht
theorem IsS61.apartS {w0 W : World} {g : Nat} {f0 : List Int} {f1 : Int} {f2 : Int} {α : Type} {d : Kd α} {e : Nat} {base : Nat} {ok : Nat → Prop} {v : Value} {xs : List α} (h : IsS61 w0 W g f0 f1 f2) (ho : d.S e W base ok v xs) (ht : ∀ q, q ∈ e :: d.E → q ≠ 61) : d.S e W base (fun k => ok k ∧ k ≠ g) v xs := by
 obtain ⟨A0, c0, hb, hg, hr0⟩ := h
 exact Kd.S_types ho hb ht
theorem IsS61.own_neS {w0 W : World} {g : Nat} {f0 : List Int} {f1 : Int} {f2 : Int} {α : Type} {d : Kd α} {e : Nat} {base : Nat} {ok : Nat → Prop} {v : Value} {xs : List α} (h : IsS61 w0 W g f0 f1 f2) (ho : d.S e W base ok v xs) (ht : e ≠ 61) : some g ≠ v.ownBlock := by
 obtain ⟨A0, c0, hb, hg, hr0⟩ := h
 exact Kd.S_ne ho hb ht
theorem IsS61.lt {w0 W : World} {g : Nat} {f0 : List Int} {f1 : Int} {f2 : Int} (h : IsS61 w0 W g f0 f1 f2) : g < W.heap.size := by
 obtain ⟨A0, c0, hb, hg, hr0⟩ := h
 exact blk_lt hb
theorem IsS61.ge {w0 W : World} {g : Nat} {f0 : List Int} {f1 : Int} {f2 : Int} (h : IsS61 w0 W g f0 f1 f2) : w0.heap.size ≤ g := by
 obtain ⟨A0, c0, hb, hg, hr0⟩ := h
 exact hg
theorem IsS61.ne_blk {w0 W : World} {g : Nat} {f0 : List Int} {f1 : Int} {f2 : Int} {a : Nat} {cs : Array Value} {t : TypeId} {fr : Nat × Nat} (h : IsS61 w0 W g f0 f1 f2) (hb2 : W.heap[a]? = some (.cells cs t fr)) (ht : t ≠ 61) : g ≠ a := by
 obtain ⟨A0, c0, hb, hg, hr0⟩ := h
 rintro rfl
 rw [hb] at hb2
 injection hb2 with hb2
 injection hb2 with _ ht2
 exact ht ht2.symm
theorem IsS61.far {w0 W : World} {g : Nat} {f0 : List Int} {f1 : Int} {f2 : Int} {p : Addr} (h : IsS61 w0 W g f0 f1 f2) (hne : g ≠ p.block) (u : Value) : IsS61 w0 (W.setCell p u) g f0 f1 f2 := by
 obtain ⟨A0, c0, hb, hg, hr0⟩ := h
 exact ⟨A0, c0, blk_far hb hne u, hg, hr0⟩
theorem cellS61_0 {W : World} {g : Nat} {A0 : Option Addr} {c0 : Nat} {f0 : List Int} {f1 : Int} {f2 : Int} (h : W.heap[g]? = some (.cells #[.slice A0 f0.length c0, .int .i64 f1, .int .u64 f2] 61 (0, 0))) : W.cell? ⟨g, 0, none⟩ = some (.slice A0 f0.length c0) := (blk_cell h 0).trans rfl
theorem cellS61_1 {W : World} {g : Nat} {A0 : Option Addr} {c0 : Nat} {f0 : List Int} {f1 : Int} {f2 : Int} (h : W.heap[g]? = some (.cells #[.slice A0 f0.length c0, .int .i64 f1, .int .u64 f2] 61 (0, 0))) : W.cell? ⟨g, 1, none⟩ = some (.int .i64 f1) := (blk_cell h 1).trans rfl
theorem IsS61.set_1 {w0 W : World} {g : Nat} {f0 : List Int} {f1 : Int} {f2 : Int} (h : IsS61 w0 W g f0 f1 f2) (x : Int) : IsS61 w0 (W.setCell ⟨g, 1, none⟩ (.int .i64 x)) g f0 x f2 := by
 obtain ⟨A0, c0, hb, hg, hr0⟩ := h
 exact ⟨A0, c0, by simpa using blk_set hb 1 (.int .i64 x), hg, hr0⟩
theorem cellS61_2 {W : World} {g : Nat} {A0 : Option Addr} {c0 : Nat} {f0 : List Int} {f1 : Int} {f2 : Int} (h : W.heap[g]? = some (.cells #[.slice A0 f0.length c0, .int .i64 f1, .int .u64 f2] 61 (0, 0))) : W.cell? ⟨g, 2, none⟩ = some (.int .u64 f2) := (blk_cell h 2).trans rfl
theorem IsS61.set_2 {w0 W : World} {g : Nat} {f0 : List Int} {f1 : Int} {f2 : Int} (h : IsS61 w0 W g f0 f1 f2) (x : Int) : IsS61 w0 (W.setCell ⟨g, 2, none⟩ (.int .u64 x)) g f0 f1 x := by
 obtain ⟨A0, c0, hb, hg, hr0⟩ := h
 exact ⟨A0, c0, by simpa using blk_set hb 2 (.int .u64 x), hg, hr0⟩
theorem IsS61.new (w0 W : World) (A0 : Option Addr) (c0 : Nat) (f0 : List Int) (f1 : Int) (f2 : Int) (hB : Below w0.heap.size w0 W) (hr0 : Kd.C (Kd.int .u8) w0 A0 f0.length f0) : IsS61 w0 (W.alloc (.cells #[.slice A0 f0.length c0, .int .i64 f1, .int .u64 f2] 61)) W.heap.size f0 f1 f2 := ⟨A0, c0, by simpa using heap_alloc_new W _, hB.size, hr0⟩
theorem iS61 {p q : Prop} (h : Aside0 p) (f : p → q := by (intro h_; first | (with_reducible exact h_) | (repeat (first | (with_reducible first | exact h_ | apply IsS61.alloc | apply IsS61.drewN | apply IsS61.drew | apply IsS61.set_1 | apply IsS61.set_2 | refine IsS61.far ?_ (Aside0.out (by assumption)) _) | exact h_)))) : q := f h.out
theorem kR61 {α : Type} {d : Kd α} {e base g : Nat} {ok : Nat → Prop} {v : Value} {xs : List α} {w0 w w1 w2 : World} {l : List Int} {p s : Int} (hI : IsS61 w0 w1 g l p s) (h : Aside0 (Kd.R d e w base ok v xs)) (hk : KeepBut w1 w2 g none) (ht : ∀ q, q ∈ e :: d.E → q ≠ 61 := by decide) (hb : Below w.heap.size w w1 := by repeat (first | (with_reducible exact Below.refl _ _) | apply below_alloc | apply pw_below_drewN | apply below_drew1)) : Aside0 (Kd.R d e w2 base ok v xs) := ⟨Kd.R_mono (Kd.R_keep (IsS61.apart hI (Kd.R_below h.out hb) ht) hk (fun _ h => h.2)) (fun _ h => h.1)⟩

/-! ### spec_l01Next: function 30 -/
def spec_l01Next.f (ac : List Int) (aa : Int) (ab : Int) (a1 : Int) : Option (Int × Int × Int) := if a1 ≤ 0 then (some (0, aa, ab)) else (if aa < (ac.length : Int) then (if 0 ≤ aa then (if (IntKind.u64.wrap (a1)) = 0 then (none) else (some (wrap64 (Int.tmod (Go.bits .xor .u64 ((IntKind.u64.wrap ((IntKind.u64.wrap (ab * 6364136223846793005)) + 1442695040888963407)) / 8589934592) (IntKind.u64.wrap (rd ac aa))) (IntKind.u64.wrap (a1))), wrap64 (aa + 1), IntKind.u64.wrap ((IntKind.u64.wrap (ab * 6364136223846793005)) + 1442695040888963407)))) else (none)) else (if (IntKind.u64.wrap (a1)) = 0 then (none) else (some (wrap64 (Int.tmod ((IntKind.u64.wrap ((IntKind.u64.wrap (ab * 6364136223846793005)) + 1442695040888963407)) / 8589934592) (IntKind.u64.wrap (a1))), aa, IntKind.u64.wrap ((IntKind.u64.wrap (ab * 6364136223846793005)) + 1442695040888963407)))))
set_option maxHeartbeats 60000000 in
set_option maxRecDepth 100000 in
theorem spec_l01Next.calls (g : Nat) (ab : List Int) (aa : Int) (ac : Int) (a1 : Int) (r1 : Int) (r2 : Int) (r3 : Int) (w0 w : World) (hI : IsS61 w0 w g ab aa ac) (hB : Below w0.heap.size w0 w) (h : spec_l01Next.f ab aa ac a1 = some (r1, r2, r3)) :
 Calls Try.prog 30 #[.pointer (some ⟨g, 0, none⟩), .int .i64 a1] w fun e w' => e = .returned (.int .i64 r1) ∧ IsS61 w0 w' g ab r2 r3 ∧ Below w0.heap.size w0 w' ∧ KeepBut w w' g none := by
 have ad := Aside0.mk hI
 have HK := Aside0.mk (KeepBut.refl w g none)
 have HL := Aside0.mk hB.size
 clear hI
 have HW0 := Aside0.mk hB.size
 have HB := Aside0.mk hB
 clear hB
 have H : (if a1 ≤ 0 then (some (0, aa, ac)) else (if aa < (ab.length : Int) then (if 0 ≤ aa then (if (IntKind.u64.wrap (a1)) = 0 then (none) else (some (wrap64 (Int.tmod (Go.bits .xor .u64 ((IntKind.u64.wrap ((IntKind.u64.wrap (ac * 6364136223846793005)) + 1442695040888963407)) / 8589934592) (IntKind.u64.wrap (rd ab aa))) (IntKind.u64.wrap (a1))), wrap64 (aa + 1), IntKind.u64.wrap ((IntKind.u64.wrap (ac * 6364136223846793005)) + 1442695040888963407)))) else (none)) else (if (IntKind.u64.wrap (a1)) = 0 then (none) else (some (wrap64 (Int.tmod ((IntKind.u64.wrap ((IntKind.u64.wrap (ac * 6364136223846793005)) + 1442695040888963407)) / 8589934592) (IntKind.u64.wrap (a1))), aa, IntKind.u64.wrap ((IntKind.u64.wrap (ac * 6364136223846793005)) + 1442695040888963407)))))) = some (r1, r2, r3) := h
 clear h
 by_cases c3 : a1 ≤ 0
 {
 rw [if_pos c3] at H
 have c3b0 : decide (a1 ≤ 0) = true := decide_eq_true c3
 clear c3
 simp only [Option.some.injEq, Prod.mk.injEq] at H
 obtain ⟨rfl, rfl, rfl⟩ := H
 go_enter Try.func30, Try.ntmps30
 go_wp2
 repeat (go_quiet (fail); try go_wp2)
 go_ret
 exact ⟨eR, by exact iS61 ad, by repeat (first | (with_reducible first | exact HB.out | apply below_alloc | apply pw_below_drewN | apply below_drew1 | refine below_set ?_ (IsS61.ge ad.out)) | exact HB.out), by repeat (first | (with_reducible first | exact HK.out | apply KeepBut.set_ | apply keep_drewN | apply keep_drew | apply keep_alloc) | exact HK.out)⟩
 }
 {
 rw [if_neg c3] at H
 have c3b0 : decide (a1 ≤ 0) = false := decide_eq_false c3
 clear c3
 by_cases c4 : aa < (ab.length : Int)
 {
 rw [if_pos c4] at H
 have c4b0 : decide (aa < (ab.length : Int)) = true := decide_eq_true c4
 clear c4
 by_cases c5 : 0 ≤ aa
 {
 rw [if_pos c5] at H
 have c5b0 : decide (0 ≤ aa) = true := decide_eq_true c5
 clear c5
 by_cases c6 : (IntKind.u64.wrap (a1)) = 0
 {
 rw [if_pos c6] at H
 exact absurd H (by simp)
 }
 {
 rw [if_neg c6] at H
 have c6b0 : ((IntKind.u64.wrap (a1)) == 0) = false := beq_eq_false_iff_ne.mpr c6
 have c6b1 : ((IntKind.u64.wrap (a1)) != 0) = true := bne_iff_ne.mpr c6
 simp only [Option.some.injEq, Prod.mk.injEq] at H
 obtain ⟨rfl, rfl, rfl⟩ := H
 obtain ⟨ASz1001_0, cSz1001_0, HGz1001, hgz1001, HSz1001_0⟩ := ad.out
 have ae := cellS61_0 HGz1001
 have af := cellS61_1 HGz1001
 have ag := cellS61_2 HGz1001
 have ah := blk_frozen HGz1001 1
 have ai := blk_frozen HGz1001 2
 clear HGz1001 hgz1001
 have p186 : 0 ≤ (aa : Int) := dT
 have q186 : aa < (ab.length : Int) := dT
 obtain ⟨ad186, e186, hx186_0⟩ := Kd.at_int HSz1001_0 aa p186 q186
 cases e186
 have hn186_0 : ad186.block ≠ g := Nat.ne_of_lt (Nat.lt_of_lt_of_le (by have := World.block_lt_of_cell? _ _ hx186_0; first | rwa [add_block] at this | exact this) (IsS61.ge ad.out))
 replace hx186_0 := pw_cell_below HB.out hx186_0
 replace hx186_0 := (cell_far (p := ⟨g, 2, none⟩) (by first | (rw [add_block]; exact hn186_0) | (show (Addr.add _ _).block ≠ _; rw [add_block]; exact hn186_0) | exact hn186_0) (.int .u64 (IntKind.u64.wrap ((IntKind.u64.wrap (ac * 6364136223846793005)) + 1442695040888963407)))).trans hx186_0
 (try have aj := fun (n_ : Nat) => (show (((w.drewN n_).setCell ⟨g, 2, none⟩ (.int .u64 (IntKind.u64.wrap ((IntKind.u64.wrap (ac * 6364136223846793005)) + 1442695040888963407))))).cell? _ = some _ from hx186_0))
 clear hn186_0
 replace p186 := eq_true p186
 replace q186 := eq_true q186
 go_enter Try.func30, Try.ntmps30
 go_wp2
 repeat (go_quiet (fail); try go_wp2)
 go_ret
 exact ⟨eR, by exact iS61 ad, by repeat (first | (with_reducible first | exact HB.out | apply below_alloc | apply pw_below_drewN | apply below_drew1 | refine below_set ?_ (IsS61.ge ad.out)) | exact HB.out), by repeat (first | (with_reducible first | exact HK.out | apply KeepBut.set_ | apply keep_drewN | apply keep_drew | apply keep_alloc) | exact HK.out)⟩
 }
 }
 {
 rw [if_neg c5] at H
 exact absurd H (by simp)
 }
 }
 {
 rw [if_neg c4] at H
 have c4b0 : decide (aa < (ab.length : Int)) = false := decide_eq_false c4
 clear c4
 by_cases c7 : (IntKind.u64.wrap (a1)) = 0
 {
 rw [if_pos c7] at H
 exact absurd H (by simp)
 }
 {
 rw [if_neg c7] at H
 have c7b0 : ((IntKind.u64.wrap (a1)) == 0) = false := beq_eq_false_iff_ne.mpr c7
 have c7b1 : ((IntKind.u64.wrap (a1)) != 0) = true := bne_iff_ne.mpr c7
 simp only [Option.some.injEq, Prod.mk.injEq] at H
 obtain ⟨rfl, rfl, rfl⟩ := H
 obtain ⟨ASz1001_0, cSz1001_0, HGz1001, hgz1001, HSz1001_0⟩ := ad.out
 have ae := cellS61_0 HGz1001
 have af := cellS61_1 HGz1001
 have ag := cellS61_2 HGz1001
 have ah := blk_frozen HGz1001 1
 have ai := blk_frozen HGz1001 2
 clear HGz1001 hgz1001
 go_enter Try.func30, Try.ntmps30
 go_wp2
 repeat (go_quiet (fail); try go_wp2)
 go_ret
 exact ⟨eR, by exact iS61 ad, by repeat (first | (with_reducible first | exact HB.out | apply below_alloc | apply pw_below_drewN | apply below_drew1 | refine below_set ?_ (IsS61.ge ad.out)) | exact HB.out), by repeat (first | (with_reducible first | exact HK.out | apply KeepBut.set_ | apply keep_drewN | apply keep_drew | apply keep_alloc) | exact HK.out)⟩
 }
 }
 }

/-! ### spec_l02Host: function 43 -/
def spec_l02Host.f (s0_0 : List Int) (s0_1 : Int) (s0_2 : Int) : Option (Int × Int × Int) := (spec_l01Next.f s0_0 s0_1 s0_2 2).bind fun bt187 => ((spec_l01Next.f s0_0 bt187.2.1 bt187.2.2 6).bind fun bt190 => (some (wrap64 ((wrap64 ((wrap64 (167772160 + (wrap64 (bt187.1 * 256)))) + 1)) + bt190.1), bt190.2.1, bt190.2.2)))
set_option maxHeartbeats 60000000 in
set_option maxRecDepth 100000 in
theorem spec_l02Host.calls (g : Nat) (aa : List Int) (ac : Int) (ad : Int) (r1 : Int) (r2 : Int) (r3 : Int) (w0 w : World) (hI : IsS61 w0 w g aa ac ad) (hB : Below w0.heap.size w0 w) (h : spec_l02Host.f aa ac ad = some (r1, r2, r3)) :
 Calls Try.prog 43 #[.pointer (some ⟨g, 0, none⟩)] w fun e w' => e = .returned (.int .i64 r1) ∧ IsS61 w0 w' g aa r2 r3 ∧ Below w0.heap.size w0 w' ∧ KeepBut w w' g none := by
 have ab := Aside0.mk hI
 have HK := Aside0.mk (KeepBut.refl w g none)
 have HL := Aside0.mk hB.size
 clear hI
 have HW0 := Aside0.mk hB.size
 have HB := Aside0.mk hB
 clear hB
 have H : ((spec_l01Next.f aa ac ad 2).bind fun ae => ((spec_l01Next.f aa ae.2.1 ae.2.2 6).bind fun af => (some (wrap64 ((wrap64 ((wrap64 (167772160 + (wrap64 (ae.1 * 256)))) + 1)) + af.1), af.2.1, af.2.2)))) = some (r1, r2, r3) := h
 clear h
 replace H := Option.bind_eq_some_iff.mp H
 obtain ⟨⟨ai, ag, ah⟩, A20, H⟩ := H
 try dsimp only at H
 have A2 := Aside0.mk A20
 clear A20
 replace H := Option.bind_eq_some_iff.mp H
 obtain ⟨⟨aj, ak, al⟩, A30, H⟩ := H
 try dsimp only at H
 have A3 := Aside0.mk A30
 clear A30
 simp only [Option.some.injEq, Prod.mk.injEq] at H
 obtain ⟨rfl, rfl, rfl⟩ := H
 go_enter Try.func43, Try.ntmps43
 go_wp2_with (first | ((with_reducible refine gate_callee (f := 30) rfl ?_); refine gL (some 4) Try.func30 #[.pointer (some ⟨g, 0, none⟩), .int .i64 2] ?_; (with_reducible refine (spec_l01Next.calls g aa ac ad 2 ai ag ah w0 _ ?side1 ?side2 A2.out).mono ?_); (case side1 => exact iS61 ab); (case side2 => repeat (first | (with_reducible first | exact HB.out | apply below_alloc | apply pw_below_drewN | apply below_drew1 | refine below_set ?_ (IsS61.ge ab.out)) | exact HB.out)); rintro e am ⟨rfl, hi, hb, hk⟩; refine ⟨_, rfl, ?_⟩; replace HK := Aside0.mk (KeepBut.trans (by repeat (first | (with_reducible first | exact HK.out | apply KeepBut.set_ | apply keep_drewN | apply keep_drew | apply keep_alloc) | exact HK.out)) hk (.inl rfl)); replace HB := Aside0.mk (hb); replace ab := Aside0.mk (hi); clear hb hk hi) | ((with_reducible refine gate_callee (f := 30) rfl ?_); refine gL (some 9) Try.func30 #[.pointer (some ⟨g, 0, none⟩), .int .i64 6] ?_; (with_reducible refine (spec_l01Next.calls g aa ag ah 6 aj ak al w0 _ ?side1 ?side2 A3.out).mono ?_); (case side1 => exact iS61 ab); (case side2 => repeat (first | (with_reducible first | exact HB.out | apply below_alloc | apply pw_below_drewN | apply below_drew1 | refine below_set ?_ (IsS61.ge ab.out)) | exact HB.out)); rintro e an ⟨rfl, hi, hb, hk⟩; refine ⟨_, rfl, ?_⟩; replace HK := Aside0.mk (KeepBut.trans (by repeat (first | (with_reducible first | exact HK.out | apply KeepBut.set_ | apply keep_drewN | apply keep_drew | apply keep_alloc) | exact HK.out)) hk (.inl rfl)); replace HB := Aside0.mk (hb); replace ab := Aside0.mk (hi); clear hb hk hi))
 go_ret
 exact ⟨eR, by exact iS61 ab, by repeat (first | (with_reducible first | exact HB.out | apply below_alloc | apply pw_below_drewN | apply below_drew1 | refine below_set ?_ (IsS61.ge ab.out)) | exact HB.out), by repeat (first | (with_reducible first | exact HK.out | apply KeepBut.set_ | apply keep_drewN | apply keep_drew | apply keep_alloc) | exact HK.out)⟩

/-! ### spec_l01Begin: function 27 -/
def spec_l01Begin.l0 : Nat → List Int → Int → List Int → Int → Int → Option (Int × Int)
  | 0, _, _, _, _, _ => none
  | k + 1, x0, x4, ac, aa, ab => if x4 < (x0.length : Int) then (if 0 ≤ x4 then (spec_l01Begin.l0 k x0 (wrap64 (x4 + 1)) ac aa (IntKind.u64.wrap ((Go.bits .xor .u64 ab (IntKind.u64.wrap (rd x0 x4))) * 1099511628211))) else (none)) else (some (aa, ab))
def spec_l01Begin.f (k : Nat) (l0 : List Int) : Option (Int × Int) := spec_l01Begin.l0 k l0 0 l0 0 1469598103934665603
theorem spec_l01Begin.mono_l : ∀ k, (∀ y0 y1 y2 y3 y4, LeO (spec_l01Begin.l0 k y0 y1 y2 y3 y4) (spec_l01Begin.l0 (k + 1) y0 y1 y2 y3 y4))
  | 0 => fun _ _ _ _ _ r h => by simp [spec_l01Begin.l0] at h
  | k + 1 => by
    have ih0 := spec_l01Begin.mono_l k
    · intro y0 y1 y2 y3 y4
      unfold spec_l01Begin.l0
      repeat' first
      | (with_reducible exact ih0 _ _ _ _ _)
      | (with_reducible exact LeO.refl _)
      | (with_reducible exact LeO.none _)
      | (with_reducible refine LeO.ite ?_ ?_)
      | (with_reducible refine LeO.bind ?_ (fun _ => ?_))
      | exact ih0 _ _ _ _ _
      | exact LeO.none _
      | refine LeO.ite ?_ ?_
      | refine LeO.bind ?_ (fun _ => ?_)
theorem spec_l01Begin.mono : ∀ a0 k, LeO (spec_l01Begin.f k a0) (spec_l01Begin.f (k + 1) a0) := by
 intro a0 k
 have ih0 := spec_l01Begin.mono_l k
 unfold spec_l01Begin.f
 repeat' first
     | (with_reducible exact ih0 _ _ _ _ _)
     | (with_reducible exact LeO.refl _)
     | (with_reducible exact LeO.none _)
     | (with_reducible refine LeO.ite ?_ ?_)
     | (with_reducible refine LeO.bind ?_ (fun _ => ?_))
     | exact ih0 _ _ _ _ _
     | exact LeO.none _
     | refine LeO.ite ?_ ?_
     | refine LeO.bind ?_ (fun _ => ?_)
def spec_l01Begin.T6 : Bool × List (List Nat × List Nat) := (true, [([], []), ([0], [0]), ([], []), ([], []), ([2, 3], [2, 3]), ([4], [4]), ([5], [5]), ([1, 6], [1, 6]), ([7], [7]), ([0, 1, 2, 3, 4, 5, 6, 7, 8], []), ([9, 8, 0, 1, 2, 3, 4, 5, 6, 7, 8], [8, 9])])
def spec_l01Begin.B6 : List Nat := [0, 1, 0, 0, 12, 28, 60, 127, 255, 511, 1023]
theorem spec_l01Begin.tab6 : rtab .any (opsOf Try.f27 6) = spec_l01Begin.T6 := by kernel_rfl
theorem spec_l01Begin.bits6 : waitsOk spec_l01Begin.T6.2 spec_l01Begin.B6 = true := by kernel_rfl
set_option maxHeartbeats 60000000 in
set_option maxRecDepth 100000 in
theorem spec_l01Begin.calls (k : Nat) (A0 : Option Addr) (c0 : Nat) (l0 : List Int) (r1 : Int) (r2 : Int) (w : World) (hr0 : Kd.C (Kd.int .u8) w A0 l0.length l0) (hc0 : l0.length ≤ c0) (h : spec_l01Begin.f k l0 = some (r1, r2)) :
 Calls Try.prog 27 #[.slice A0 l0.length c0] w fun e w' => e = .returned (.agg #[.slice A0 l0.length c0, .int .i64 r1, .int .u64 r2]) ∧ Below w.heap.size w w' := by
 have hu61 := Try.underlying61
 have HR0 := Aside0.mk hr0
 have ba := Aside0.mk hc0
 clear hr0 hc0
 have HB := Aside0.mk (Below.refl w.heap.size w)
 have H : (spec_l01Begin.l0 k l0 0 l0 0 1469598103934665603) = some (r1, r2) := h
 clear h
 have H' := Aside0.mk H
 clear H
 go_enter Try.func27, Try.ntmps27
 go_wp2_with (first | ((with_reducible refine gate_dst (N := 2) rfl ?_); refine boxE 2 #[.slice none 0 0, .int .i64 0, .int .u64 0] 61 ?_; intro ag hg a7 hbox hb; have ab := Aside0.mk (hbox); have aN := Aside0.mk ((by rw [hg]; exact (below_size wB) : w.heap.size ≤ ag)); replace HB := Aside0.mk (below_step wB hb); have a8 := aN; clear hb hbox hg) | ((with_reducible refine gate_dst (N := 3) rfl ?_); refine boxE 3 #[.slice none 0 0, .int .i64 0, .int .u64 0] 61 ?_; intro ae hg aj hbox hb; have aa := Aside0.mk (hbox); have aO := Aside0.mk ((by rw [hg]; exact (below_size wB) : w.heap.size ≤ ae)); replace HB := Aside0.mk (below_step wB hb); have a9 := aO; have ad := Aside0.mk ((by rw [hg]; exact Nat.ne_of_lt (blk_lt (Bh ab)) : ag ≠ ae)); replace ab := Aside0.mk (blk_below (Bh ab) hb); have ah := Aside0.mk ad.out.symm; clear hb hbox hg; have a3 := ah.out; have a4 := ad.out; obtain ⟨⟨aB, aC, aD⟩, aE, aF, aG⟩ := cells3 aa.out) | ((with_reducible refine gate_store (t := 61) (p := 3) rfl ?_); (try (rw [drewN_self aj]; generalize hq_ : World.drewN aj _ = aj; replace ab := Aside0.mk (blk_at hq_ ab.out); replace aa := Aside0.mk (blk_at hq_ aa.out); replace HB := Aside0.mk (below_at hq_ HB.out); clear hq_; (try (obtain ⟨⟨al, am, an⟩, ao, ap, aq⟩ := cells3 ab.out)); (try (obtain ⟨⟨ar, au, av⟩, aw, ax, ay⟩ := cells3 aa.out)))); refine storeE (((aj.setCell ⟨ae, 0, none⟩ (.slice A0 l0.length c0)).setCell ⟨ae, 1, none⟩ (.int .i64 0)).setCell ⟨ae, 2, none⟩ (.int .u64 0)) ?_; intro az hw; have n0_ : Aside0 (az.heap[ag]? = some (.cells #[.slice none 0 0, .int .i64 0, .int .u64 0] 61 (0, 0))) := ⟨(by rw [hw]; exact (by refine (far3 ad.out).trans ?_; exact ab.out))⟩; have n1_ : Aside0 (az.heap[ae]? = some (.cells #[.slice A0 l0.length c0, .int .i64 0, .int .u64 0] 61 (0, 0))) := ⟨(by rw [hw]; exact (by apply set3; exact aa.out))⟩; have n2_ : Aside0 (Below w.heap.size w az) := ⟨(by rw [hw]; exact wB)⟩; clear hw; clear ab; clear aa; clear HB; have ab := n0_; have aa := n1_; have HB := n2_; clear n0_ n1_ n2_; obtain ⟨⟨aH, aI, aJ⟩, aK, aL, aM⟩ := cells3 aa.out))
 go_loopg [4] k (fun kq v4 w' => ∃ (af : Int) (ac : Int), v4 = .int .i64 af ∧ Aside0 (spec_l01Begin.l0 kq l0 af l0 0 ac = some (r1, r2)) ∧ Aside0 (kq ≤ k) ∧ Aside0 (w'.heap[ag]? = some (.cells #[(.slice none 0 0), .int .i64 0, .int .u64 0] 61 (0, 0))) ∧ Aside0 (w'.heap[ae]? = some (.cells #[(.slice A0 l0.length c0), .int .i64 0, .int .u64 ac] 61 (0, 0))) ∧ Aside0 (Below w.heap.size w w'))
 case atStart => exact ⟨(0), (1469598103934665603), eS, H', ⟨Nat.le_refl _⟩, ⟨by (with_reducible repeat (first | refine blk_drewN ?_ _ | refine blk_drew ?_ | refine blk_alloc ?_ _)); refine blk_far ?_ ad.out _; (with_reducible repeat (first | refine blk_drewN ?_ _ | refine blk_drew ?_ | refine blk_alloc ?_ _)); exact ab.out⟩, ⟨by (with_reducible repeat (first | refine blk_drewN ?_ _ | refine blk_drew ?_ | refine blk_alloc ?_ _)); refine blk_put (cs := #[.slice A0 l0.length c0, .int .i64 0, .int .u64 0]) ?_ 2 _ rfl; (with_reducible repeat (first | refine blk_drewN ?_ _ | refine blk_drew ?_ | refine blk_alloc ?_ _)); exact aa.out⟩, ⟨wB⟩⟩
 case round => (
 clear H'
 try clear c0
 try clear aB aC aD aE aF aG
 try clear aH aI aJ aK aL aM
 obtain ⟨af, ac, rfl, HA, aQ, ab, aa, HB⟩ := hrel
 cases gk with
 | zero => exact absurd HA.out (by simp [spec_l01Begin.l0])
 | succ k1 => {
 have H := HA.out
 clear HA
 simp only [spec_l01Begin.l0] at H
 by_cases ai : af < (l0.length : Int)
 {
 rw [if_pos ai] at H
 have c1007b0 : decide (af < (l0.length : Int)) = true := decide_eq_true ai
 clear ai
 by_cases ak : 0 ≤ af
 {
 rw [if_pos ak] at H
 have c1008b0 : decide (0 ≤ af) = true := decide_eq_true ak
 clear ak
 have H' := Aside0.mk H
 clear H
 try go_wp2
 have n0_ := Aside0.mk (blk_drew ab.out)
 have n1_ := Aside0.mk (blk_drew aa.out)
 have n2_ := Aside0.mk (below_drew1 HB.out)
 clear ab
 clear aa
 clear HB
 have ab := n0_
 have aa := n1_
 have HB := n2_
 clear n0_ n1_ n2_
 have p195 : 0 ≤ (af : Int) := dT
 have q195 : af < (l0.length : Int) := dT
 obtain ⟨ad195, e195, hx195_0⟩ := Kd.at_int HR0.out af p195 q195
 have hw195_0 := hx195_0
 cases e195
 replace hx195_0 := (HB.out.cell (World.block_lt_of_cell? w _ hx195_0)).trans hx195_0
 replace p195 := eq_true p195
 replace q195 := eq_true q195
 refine start_ (n := 11) (S := fun w' => w'.cell? ⟨ae, 0, none⟩ = some (.slice (some ad195) l0.length c0) ∧ w'.cell? ⟨ae, 1, none⟩ = some (.int .i64 0) ∧ w'.cell? ⟨ae, 2, none⟩ = some (.int .u64 ac) ∧ w'.cell? (ad195.add (af).toNat) = some (.int .u8 (rd l0 af))) (ds := [10]) #[false, false, false, false, false, false, false, false, false, false, false] (by kernel_rfl) rfl rfl ⟨(blk_cell aa.out 0).trans rfl, (blk_cell aa.out 1).trans rfl, (blk_cell aa.out 2).trans rfl, ((HB.out.cell (World.block_lt_of_cell? w _ hw195_0)).trans hw195_0)⟩ (fun hHeld => ?_); refine with_tabW spec_l01Begin.tab6 spec_l01Begin.bits6 (fun HT_ HW_ => ?_)
 generalize wr.drew = aP at ab aa HB hx195_0 hHeld ⊢
 refine pure_ (i := 0) (N := some 14) (v := ?_) (a' := ?_) #[true, false, false, false, false, false, false, false, false, false, false] rfl rfl (any_of HT_.out (by kernel_rfl)) (fun _ _ _ h => h) (Or.inl ⟨by rfl, ?_⟩) ?_ ?_
 rotate_left
 {
 intro w'
 go_simp
 with_reducible rfl
 }
 rotate_left
 {
 simp only [Act.put, List.setIfInBounds_toArray, List.set_cons_zero, List.set_cons_succ, i64_w, i32_w]
 rfl
 }
 refine pure_ (i := 2) (N := some 16) (v := ?_) (a' := ?_) #[true, false, true, false, false, false, false, false, false, false, false] rfl rfl (any_of HT_.out (by kernel_rfl)) (fun _ _ _ h => h) (Or.inl ⟨by rfl, ?_⟩) ?_ ?_
 rotate_left
 {
 intro w'
 go_simp
 with_reducible rfl
 }
 rotate_left
 {
 simp only [Act.put, List.setIfInBounds_toArray, List.set_cons_zero, List.set_cons_succ, i64_w, i32_w]
 rfl
 }
 refine pure_ (i := 3) (N := some 17) (v := ?_) (a' := ?_) #[true, false, true, true, false, false, false, false, false, false, false] rfl rfl (any_of HT_.out (by kernel_rfl)) (fun _ _ _ h => h) (Or.inl ⟨by rfl, ?_⟩) ?_ ?_
 rotate_left
 {
 intro w'
 go_simp
 with_reducible rfl
 }
 rotate_left
 {
 simp only [Act.put, List.setIfInBounds_toArray, List.set_cons_zero, List.set_cons_succ, i64_w, i32_w]
 rfl
 }
 refine pure_ (i := 4) (N := some 18) (v := ?_) (a' := ?_) #[true, false, true, true, true, false, false, false, false, false, false] rfl rfl (any_of HT_.out (by kernel_rfl)) (fun _ _ _ h => h) (Or.inl ⟨by rfl, ?_⟩) ?_ ?_
 rotate_left
 {
 intro w'
 go_simp
 with_reducible rfl
 }
 rotate_left
 {
 simp only [Act.put, List.setIfInBounds_toArray, List.set_cons_zero, List.set_cons_succ, i64_w, i32_w]
 rfl
 }
 refine take_ (i := 1) (N := some 15) (v := ?_) (a' := ?_) #[true, true, true, true, true, false, false, false, false, false, false] rfl rfl (take_ofW HT_.out HW_.out (by kernel_rfl)) (fun _ _ _ h => h) (Or.inl ⟨by rfl, ?_⟩) hHeld ?_ ?_
 rotate_left
 {
 rintro w' ⟨s0, s1, s2, s3⟩
 go_simp
 with_reducible rfl
 }
 rotate_left
 {
 simp only [Act.put, List.setIfInBounds_toArray, List.set_cons_zero, List.set_cons_succ, i64_w, i32_w]
 rfl
 }
 refine take_ (i := 5) (N := some 19) (v := ?_) (a' := ?_) #[true, true, true, true, true, true, false, false, false, false, false] rfl rfl (take_ofW HT_.out HW_.out (by kernel_rfl)) (fun _ _ _ h => h) (Or.inl ⟨by rfl, ?_⟩) hHeld ?_ ?_
 rotate_left
 {
 rintro w' ⟨s0, s1, s2, s3⟩
 go_simp
 with_reducible rfl
 }
 rotate_left
 {
 simp only [Act.put, List.setIfInBounds_toArray, List.set_cons_zero, List.set_cons_succ, i64_w, i32_w]
 rfl
 }
 refine pure_ (i := 6) (N := some 20) (v := ?_) (a' := ?_) #[true, true, true, true, true, true, true, false, false, false, false] rfl rfl (any_of HT_.out (by kernel_rfl)) (fun _ _ _ h => h) (Or.inl ⟨by rfl, ?_⟩) ?_ ?_
 rotate_left
 {
 intro w'
 go_simp
 with_reducible rfl
 }
 rotate_left
 {
 simp only [Act.put, List.setIfInBounds_toArray, List.set_cons_zero, List.set_cons_succ, i64_w, i32_w]
 rfl
 }
 refine pure_ (i := 7) (N := some 21) (v := ?_) (a' := ?_) #[true, true, true, true, true, true, true, true, false, false, false] rfl rfl (any_of HT_.out (by kernel_rfl)) (fun _ _ _ h => h) (Or.inl ⟨by rfl, ?_⟩) ?_ ?_
 rotate_left
 {
 intro w'
 go_simp
 with_reducible rfl
 }
 rotate_left
 {
 simp only [Act.put, List.setIfInBounds_toArray, List.set_cons_zero, List.set_cons_succ, i64_w, i32_w]
 rfl
 }
 refine pure_ (i := 8) (N := some 22) (v := ?_) (a' := ?_) #[true, true, true, true, true, true, true, true, true, false, false] rfl rfl (any_of HT_.out (by kernel_rfl)) (fun _ _ _ h => h) (Or.inl ⟨by rfl, ?_⟩) ?_ ?_
 rotate_left
 {
 intro w'
 go_simp
 with_reducible rfl
 }
 rotate_left
 {
 simp only [Act.put, List.setIfInBounds_toArray, List.set_cons_zero, List.set_cons_succ, i64_w, i32_w]
 rfl
 }
 refine pure_ (i := 9) (N := some 23) (v := ?_) (a' := ?_) #[true, true, true, true, true, true, true, true, true, true, false] rfl rfl (any_of HT_.out (by kernel_rfl)) (fun _ _ _ h => h) (Or.inl ⟨by rfl, ?_⟩) ?_ ?_
 rotate_left
 {
 intro w'
 go_simp
 with_reducible rfl
 }
 rotate_left
 {
 simp only [Act.put, List.setIfInBounds_toArray, List.set_cons_zero, List.set_cons_succ, i64_w, i32_w]
 rfl
 }
 refine last_ (i := 10) (N := none) #[true, true, true, true, true, true, true, true, true, true, true] rfl rfl (one_of HT_.out (by kernel_rfl)) (by decide) (fun K hK => ?_)
 have hs2002 : aP.cell? ⟨ae, 2, none⟩ = some (.int .u64 ac) := (blk_cell aa.out 2).trans rfl
 have hfs2002 := blk_frozen aa.out 2
 have hns2002_0 := ad.out
 have hms2002_0 := ah.out
 refine skip_ (w1 := ?_) (by rfl) rfl ?_ ?_
 rotate_left
 {
 go_simp
 rfl
 }
 refine hK.out _ _ ?_
 clear hK K
 refine done_ (done_of HT_.out (by kernel_rfl)) ?_
 try go_wp2
 go_roundg k1
 case measure => have := aQ.out; omega
 case rel => exact ⟨(wrap64 (af + 1)), (IntKind.u64.wrap ((Go.bits .xor .u64 ac (IntKind.u64.wrap (rd l0 af))) * 1099511628211)), eS, H', ⟨by have := aQ.out; omega⟩, ⟨by (with_reducible repeat (first | refine blk_drewN ?_ _ | refine blk_drew ?_ | refine blk_alloc ?_ _)); refine blk_far ?_ ad.out _; (with_reducible repeat (first | refine blk_drewN ?_ _ | refine blk_drew ?_ | refine blk_alloc ?_ _)); exact ab.out⟩, ⟨by (with_reducible repeat (first | refine blk_drewN ?_ _ | refine blk_drew ?_ | refine blk_alloc ?_ _)); refine blk_put (cs := #[.slice (some ad195) l0.length c0, .int .i64 0, .int .u64 ac]) ?_ 2 _ rfl; (with_reducible repeat (first | refine blk_drewN ?_ _ | refine blk_drew ?_ | refine blk_alloc ?_ _)); exact aa.out⟩, ⟨wB⟩⟩
 }
 {
 rw [if_neg ak] at H
 exact absurd H (by simp)
 }
 }
 {
 rw [if_neg ai] at H
 have c1007b0 : decide (af < (l0.length : Int)) = false := decide_eq_false ai
 clear ai
 simp only [Option.some.injEq, Prod.mk.injEq] at H
 obtain ⟨rfl, rfl⟩ := H
 have a5 := ah.out
 have a6 := ad.out
 obtain ⟨⟨aR, aS, aT⟩, aU, aV, aW⟩ := cells3 aa.out
 obtain ⟨⟨aX, aY, aZ⟩, a0, a1, a2⟩ := cells3 ab.out
 go_wp2_with (first | ((with_reducible refine gate_store (t := 61) (p := 2) rfl ?_); (try (rw [drewN_self wr]; generalize hq_ : World.drewN wr _ = wr; replace ab := Aside0.mk (blk_at hq_ ab.out); replace aa := Aside0.mk (blk_at hq_ aa.out); replace HB := Aside0.mk (below_at hq_ HB.out); clear hq_; (try (obtain ⟨⟨al, am, an⟩, ao, ap, aq⟩ := cells3 ab.out)); (try (obtain ⟨⟨ar, au, av⟩, aw, ax, ay⟩ := cells3 aa.out)))); refine storeE (((wr.setCell ⟨ag, 0, none⟩ (.slice A0 l0.length c0)).setCell ⟨ag, 1, none⟩ (.int .i64 0)).setCell ⟨ag, 2, none⟩ (.int .u64 ac)) ?_; intro aA hw; have n0_ : Aside0 (aA.heap[ag]? = some (.cells #[.slice A0 l0.length c0, .int .i64 0, .int .u64 ac] 61 (0, 0))) := ⟨(by rw [hw]; exact (by apply set3; exact ab.out))⟩; have n1_ : Aside0 (aA.heap[ae]? = some (.cells #[.slice A0 l0.length c0, .int .i64 0, .int .u64 ac] 61 (0, 0))) := ⟨(by rw [hw]; exact (by refine (far3 ah.out).trans ?_; exact aa.out))⟩; have n2_ : Aside0 (Below w.heap.size w aA) := ⟨(by rw [hw]; exact wB)⟩; clear hw; clear ab; clear aa; clear HB; have ab := n0_; have aa := n1_; have HB := n2_; clear n0_ n1_ n2_))
 refine bodyPost_ret (results_cell_row rfl _ _ ag 61 #[.slice A0 l0.length c0, .int .i64 0, .int .u64 ac] (0, 0) _ rfl (Bh ab) Try.underlying61 rfl (by kernel_rfl)) rfl ?_
 exact ⟨eR, wB⟩
 }
 }
 )

end Go.Proofs.Ytckhadlmhbhngaa.PFnComplain
