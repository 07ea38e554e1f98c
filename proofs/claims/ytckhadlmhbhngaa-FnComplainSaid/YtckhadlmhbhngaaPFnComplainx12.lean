-- Written for this claim by a program of this session (wip/mkprint.py: the print, turned at a few places). Not trusted: Lean checks it.
import Derived.Test.YtckhadlmhbhngaaPFnComplainx0
import Derived.Test.YtckhadlmhbhngaaPFnComplainx9
import Derived.Test.YtckhadlmhbhngaaPFnComplainx11
namespace Go.Proofs.Ytckhadlmhbhngaa.PFnComplain
open Go.RowKit Go.Proofs.YtckhadlmhbhngaaW.PrintWords Go.Proofs.YtckhadlmhbhngaaW.PrintLast Go.Proofs.YtckhadlmhbhngaaW.PrintMore
attribute [local go_sem] max2_int min2_int max_two min_two max_three min_three max_four min_four   -- for this text's walks alone
set_option linter.unusedVariables false
set_option linter.unusedSimpArgs false

/-! ### spec_EncodeIP: function 28 -/
def spec_EncodeIP.j0 : Nat → Bool → Int → Int → Bool → Bool → Int → Int → Int → Int → Int → List Int → List Int → Option (List Int × Int)
  | 0, _, _, _, _, _, _, _, _, _, _, _, _ => none
  | k + 1, an, ab, ac, ad, ae, af, ag, ah, ai, aj, ak, aa => if an = true then (some (([] : List Int), 7)) else ((spec_l05Head.f k ab ac ad ae af ag ah ai aj ak aa).bind fun al => ((spec_l01Join.f k al aa).bind fun am => (some (am, 0))))
def spec_EncodeIP.f (k : Nat) (ad : Int) (ae : Int) (af : Bool) (ag : Bool) (ab : Int) (ah : Int) (ai : Int) (aj : Int) (ak : Int) (ac : List Int) (aa : List Int) : Option (List Int × Int) := (spec_l05OK.f ad ae af ag ab ah ai aj ak ac aa).bind fun al => (if al = true then (if (wrap64 ((wrap64 (20 + (ac.length : Int))) + (aa.length : Int))) > 65535 then (spec_EncodeIP.j0 k true ad ae af ag ab ah ai aj ak ac aa) else (spec_EncodeIP.j0 k (decide ((wrap64 (ab + (aa.length : Int))) > 65535)) ad ae af ag ab ah ai aj ak ac aa)) else (some (([] : List Int), 1)))
theorem spec_EncodeIP.mono_l : ∀ k, (∀ y0 y1 y2 y3 y4 y5 y6 y7 y8 y9 aa ab, LeO (spec_EncodeIP.j0 k y0 y1 y2 y3 y4 y5 y6 y7 y8 y9 aa ab) (spec_EncodeIP.j0 (k + 1) y0 y1 y2 y3 y4 y5 y6 y7 y8 y9 aa ab))
  | 0 => fun _ _ _ _ _ _ _ _ _ _ _ _ r h => by simp [spec_EncodeIP.j0] at h
  | k + 1 => by
    have ih0 := spec_EncodeIP.mono_l k
    · intro y0 y1 y2 y3 y4 y5 y6 y7 y8 y9 aa ab
      unfold spec_EncodeIP.j0
      repeat' first
      | (with_reducible exact ih0 _ _ _ _ _ _ _ _ _ _ _ _)
      | (with_reducible exact spec_l01Join.mono _ _ _)
      | (with_reducible exact spec_l05Head.mono _ _ _ _ _ _ _ _ _ _ _ _)
      | (with_reducible exact LeO.refl _)
      | (with_reducible exact LeO.none _)
      | (with_reducible refine LeO.ite ?_ ?_)
      | (with_reducible refine LeO.bind ?_ (fun _ => ?_))
      | exact ih0 _ _ _ _ _ _ _ _ _ _ _ _
      | exact spec_l01Join.mono _ _ _
      | exact spec_l05Head.mono _ _ _ _ _ _ _ _ _ _ _ _
      | exact LeO.none _
      | refine LeO.ite ?_ ?_
      | refine LeO.bind ?_ (fun _ => ?_)
theorem spec_EncodeIP.mono : ∀ a0 a1 a2 a3 a4 a5 a6 a7 a8 a9 aa k, LeO (spec_EncodeIP.f k a0 a1 a2 a3 a4 a5 a6 a7 a8 a9 aa) (spec_EncodeIP.f (k + 1) a0 a1 a2 a3 a4 a5 a6 a7 a8 a9 aa) := by
 intro a0 a1 a2 a3 a4 a5 a6 a7 a8 a9 aa k
 have ih0 := spec_EncodeIP.mono_l k
 unfold spec_EncodeIP.f
 repeat' first
     | (with_reducible exact ih0 _ _ _ _ _ _ _ _ _ _ _ _)
     | (with_reducible exact spec_l01Join.mono _ _ _)
     | (with_reducible exact spec_l05Head.mono _ _ _ _ _ _ _ _ _ _ _ _)
     | (with_reducible exact LeO.refl _)
     | (with_reducible exact LeO.none _)
     | (with_reducible refine LeO.ite ?_ ?_)
     | (with_reducible refine LeO.bind ?_ (fun _ => ?_))
     | exact ih0 _ _ _ _ _ _ _ _ _ _ _ _
     | exact spec_l01Join.mono _ _ _
     | exact spec_l05Head.mono _ _ _ _ _ _ _ _ _ _ _ _
     | exact LeO.none _
     | refine LeO.ite ?_ ?_
     | refine LeO.bind ?_ (fun _ => ?_)
set_option maxHeartbeats 60000000 in
set_option maxRecDepth 100000 in
theorem spec_EncodeIP.calls (k : Nat) (ae : Int) (af : Int) (ag : Bool) (ah : Bool) (ad : Int) (ai : Int) (aj : Int) (ak : Int) (al : Int) (A0_9 : Option Addr) (ao : Nat) (ac : List Int) (A0_10 : Option Addr) (an : Nat) (ab : List Int) (r1 : List Int) (r2 : Int) (w : World) (hr0_9 : Kd.C (Kd.int .u8) w A0_9 ac.length ac) (hc0_9 : ac.length ≤ ao) (hr0_10 : Kd.C (Kd.int .u8) w A0_10 ab.length ab) (hc0_10 : ab.length ≤ an) (h : spec_EncodeIP.f k ae af ag ah ad ai aj ak al ac ab = some (r1, r2)) :
 Calls Try.prog 28 #[.agg #[.int .i64 ae, .int .i64 af, .bool ag, .bool ah, .int .i64 ad, .int .i64 ai, .int .i64 aj, .int .i64 ak, .int .i64 al, .slice A0_9 ac.length ao, .slice A0_10 ab.length an]] w fun e w' => ∃ v0_ : Value, e = .returned (.tuple #[v0_, .int .i64 r2]) ∧ Kd.R (Kd.int .u8) 5 w' w.heap.size (fun _ => True) v0_ r1 ∧ Below w.heap.size w w' := by
 have hu25 := Try.underlying25
 have HR0_9 := Aside0.mk hr0_9
 have bg := Aside0.mk hc0_9
 clear hr0_9 hc0_9
 have HR0_10 := Aside0.mk hr0_10
 have ar := Aside0.mk hc0_10
 clear hr0_10 hc0_10
 have HB := Aside0.mk (Below.refl w.heap.size w)
 have H : ((spec_l05OK.f ae af ag ah ad ai aj ak al ac ab).bind fun bj => (if bj = true then (if (wrap64 ((wrap64 (20 + (ac.length : Int))) + (ab.length : Int))) > 65535 then (spec_EncodeIP.j0 k true ae af ag ah ad ai aj ak al ac ab) else (spec_EncodeIP.j0 k (decide ((wrap64 (ad + (ab.length : Int))) > 65535)) ae af ag ah ad ai aj ak al ac ab)) else (some (([] : List Int), 1)))) = some (r1, r2) := h
 clear h
 replace H := Option.bind_eq_some_iff.mp H
 obtain ⟨bj, A20, H⟩ := H
 have A2 := Aside0.mk A20
 clear A20
 by_cases c3 : bj = true
 {
 subst c3
 have H1 : (if (wrap64 ((wrap64 (20 + (ac.length : Int))) + (ab.length : Int))) > 65535 then (spec_EncodeIP.j0 k true ae af ag ah ad ai aj ak al ac ab) else (spec_EncodeIP.j0 k (decide ((wrap64 (ad + (ab.length : Int))) > 65535)) ae af ag ah ad ai aj ak al ac ab)) = some (r1, r2) := by rw [if_pos rfl] at H; exact H
 clear H
 have H := H1
 clear H1
 have bm := Aside0.mk H
 clear H
 go_enter Try.func28, Try.ntmps28
 go_upto_region 3 with (first | ((with_reducible refine gate_dst (N := 1) rfl ?_); (try (refine gate_guard (by rfl) ?_; dsimp only)); refine boxE 1 #[.int .i64 ae, .int .i64 af, .bool ag, .bool ah, .int .i64 ad, .int .i64 ai, .int .i64 aj, .int .i64 ak, .int .i64 al, .slice A0_9 ac.length ao, .slice A0_10 ab.length an] 25 ?_; intro am hg bp hbox hb; have aa := Aside0.mk (hbox); have bh := Aside0.mk ((by rw [hg]; exact (below_size wB) : w.heap.size ≤ am)); replace HB := Aside0.mk (below_step wB hb); have bq := bh; clear hb hbox hg; obtain ⟨⟨ay, az, aA, aB, aC, aD, aE, aF, aG, aH, au⟩, aI, aJ, aK, aL, aM, aN, aO, aP, aQ, aR, av⟩ := cells11 aa.out) | ((with_reducible refine gate_callee (f := 65) rfl ?_); refine gL (some 5) Try.func65 #[.agg #[.int .i64 ae, .int .i64 af, .bool ag, .bool ah, .int .i64 ad, .int .i64 ai, .int .i64 aj, .int .i64 ak, .int .i64 al, .slice A0_9 ac.length ao, .slice A0_10 ab.length an]] ?_; (with_reducible refine (spec_l05OK.calls ae af ag ah ad ai aj ak al _ _ ac _ _ ab true _ ?side1 ?side2 ?side3 ?side4 A2.out).mono ?_); (case side1 => exact Kd.C_below HR0_9.out wB); (case side2 => exact bg.out); (case side3 => exact Kd.C_below HR0_10.out wB); (case side4 => exact ar.out); rintro e br ⟨rfl, hb⟩; refine ⟨_, rfl, ?_⟩; replace aa := Aside0.mk (blk_below (Bh aa) hb); replace HB := Aside0.mk (below_step wB hb); clear hb))
 (try simp only [Act.put, List.setIfInBounds_toArray, List.set_cons_zero, List.set_cons_succ])
 go_cut [24] (fun bu wc => ∃ (kq : Nat) (bc : Bool), bu = .bool bc ∧ Aside0 (spec_EncodeIP.j0 kq bc ae af ag ah ad ai aj ak al ac ab = some (r1, r2)) ∧ Aside0 (kq ≤ k) ∧ Aside0 (wc.heap[am]? = some (.cells #[.int .i64 ae, .int .i64 af, .bool ag, .bool ah, .int .i64 ad, .int .i64 ai, .int .i64 aj, .int .i64 ak, .int .i64 al, (.slice A0_9 ac.length ao), (.slice A0_10 ab.length an)] 25 (0, 0))) ∧ Aside0 (Below w.heap.size w wc))
 case first => (
 have H := bm.out
 clear bm
 by_cases ap : (wrap64 ((wrap64 (20 + (ac.length : Int))) + (ab.length : Int))) > 65535
 {
 rw [if_pos ap] at H
 have c1004b0 : decide (65535 < (wrap64 ((wrap64 (20 + (ac.length : Int))) + (ab.length : Int)))) = true := decide_eq_true ap
 clear ap
 (first | rw [c1004b0] | rw [c1004b1] | (simp only [i64_w, i32_w]; rw [c1004b0]) | skip)
 have H' := Aside0.mk H
 clear H
 obtain ⟨⟨aS, aT, aU, aV, aW, aX, aY, aZ, a0, a1, aw⟩, a2, a3, a4, a5, a6, a7, a8, a9, ba, bb, ax⟩ := cells11 aa.out
 go_wp2
 go_meet
 case rel => exact ⟨_, (true), eS, H', ⟨by first | omega | exact Nat.le_refl _⟩, ⟨Bh aa⟩, ⟨wB⟩⟩
 }
 {
 rw [if_neg ap] at H
 have c1004b0 : decide (65535 < (wrap64 ((wrap64 (20 + (ac.length : Int))) + (ab.length : Int)))) = false := decide_eq_false ap
 clear ap
 (first | rw [c1004b0] | rw [c1004b1] | (simp only [i64_w, i32_w]; rw [c1004b0]) | skip)
 have H' := Aside0.mk H
 clear H
 obtain ⟨⟨aS, aT, aU, aV, aW, aX, aY, aZ, a0, a1, aw⟩, a2, a3, a4, a5, a6, a7, a8, a9, ba, bb, ax⟩ := cells11 aa.out
 go_wp2
 go_meet
 case rel => exact ⟨_, (decide ((wrap64 (ad + (ab.length : Int))) > 65535)), eS, H', ⟨by first | omega | exact Nat.le_refl _⟩, ⟨Bh aa⟩, ⟨wB⟩⟩
 }
 )
 case rest => (
 clear bm
 try clear c0
 try clear c3
 try clear ap
 try clear c1004b0
 try clear c1004b1
 try clear ay az au aA aB aC aD aE aF aG aH aI aJ av aK aL aM aN aO aP aQ aR
 try clear aS aT aw aU aV aW aX aY aZ a0 a1 a2 a3 ax a4 a5 a6 a7 a8 a9 ba bb
 obtain ⟨kq, bc, rfl, HA, HJ3, aa, HB⟩ := hcut
 cases kq with
 | zero => exact absurd HA.out (by simp [spec_EncodeIP.j0])
 | succ bl => {
 have H := HA.out
 clear HA
 simp only [spec_EncodeIP.j0] at H
 by_cases bd : bc = true
 {
 subst bd
 have H1 : (some (([] : List Int), 7)) = some (r1, r2) := by rw [if_pos rfl] at H; exact H
 clear H
 have H := H1
 clear H1
 simp only [Option.some.injEq, Prod.mk.injEq] at H
 obtain ⟨rfl, rfl⟩ := H
 go_wp2
 go_ret2
 exact ⟨_, eR, by first | exact Kd.R_nil _ _ _ _ _ | exact Kd.N_nil _ _ _ _ _ | exact Kd.V_nil _ _ _ _ _ | exact Kd.Q_nil _ _ _ _ _ | exact Kd.S_nil _ _ _ _ _, wB⟩
 }
 {
 replace bd := Bool.eq_false_iff.mpr bd
 subst bd
 have H1 : ((spec_l05Head.f bl ae af ag ah ad ai aj ak al ac ab).bind fun be => ((spec_l01Join.f bl be ab).bind fun bk => (some (bk, 0)))) = some (r1, r2) := by rw [if_neg (show ¬ (false = true) by decide)] at H; exact H
 clear H
 have H := H1
 clear H1
 replace H := Option.bind_eq_some_iff.mp H
 obtain ⟨be, A10060, H⟩ := H
 have A1006 := Aside0.mk A10060
 clear A10060
 replace H := Option.bind_eq_some_iff.mp H
 obtain ⟨bk, A10070, H⟩ := H
 have A1007 := Aside0.mk A10070
 clear A10070
 simp only [Option.some.injEq, Prod.mk.injEq] at H
 obtain ⟨rfl, rfl⟩ := H
 try go_wp2
 have n0_ := Aside0.mk (blk_drew aa.out)
 have n1_ := Aside0.mk (below_drew1 HB.out)
 clear aa
 clear HB
 have aa := n0_
 have HB := n1_
 clear n0_ n1_
 refine start_ (n := 7) (S := fun w' => w'.cell? ⟨am, 0, none⟩ = some (.int .i64 ae) ∧ w'.cell? ⟨am, 1, none⟩ = some (.int .i64 af) ∧ w'.cell? ⟨am, 2, none⟩ = some (.bool ag) ∧ w'.cell? ⟨am, 3, none⟩ = some (.bool ah) ∧ w'.cell? ⟨am, 4, none⟩ = some (.int .i64 ad) ∧ w'.cell? ⟨am, 5, none⟩ = some (.int .i64 ai) ∧ w'.cell? ⟨am, 6, none⟩ = some (.int .i64 aj) ∧ w'.cell? ⟨am, 7, none⟩ = some (.int .i64 ak) ∧ w'.cell? ⟨am, 8, none⟩ = some (.int .i64 al) ∧ w'.cell? ⟨am, 9, none⟩ = some (.slice A0_9 ac.length ao) ∧ w'.cell? ⟨am, 10, none⟩ = some (.slice A0_10 ab.length an)) (ds := []) #[false, false, false, false, false, false, false] (by kernel_rfl) rfl rfl ⟨(blk_cell aa.out 0).trans rfl, (blk_cell aa.out 1).trans rfl, (blk_cell aa.out 2).trans rfl, (blk_cell aa.out 3).trans rfl, (blk_cell aa.out 4).trans rfl, (blk_cell aa.out 5).trans rfl, (blk_cell aa.out 6).trans rfl, (blk_cell aa.out 7).trans rfl, (blk_cell aa.out 8).trans rfl, (blk_cell aa.out 9).trans rfl, (blk_cell aa.out 10).trans rfl⟩ (fun hHeld => ?_)
 generalize wc.drew = bw at aa HB hHeld ⊢
 refine pure_ (i := 2) (N := some 27) (v := ?_) (a' := ?_) #[false, false, true, false, false, false, false] rfl rfl (by kernel_rfl) (fun _ _ _ h => h) (Or.inl ⟨by rfl, ?_⟩) ?_ ?_
 rotate_left
 {
 intro w'
 go_simp
 with_reducible rfl
 }
 rotate_left
 {
 simp only [Act.put, List.setIfInBounds_toArray, List.set_cons_zero, List.set_cons_succ, i64_w, i32_w]
 rfl
 }
 refine take_ (i := 0) (N := some 25) (v := ?_) (a' := ?_) #[true, false, true, false, false, false, false] rfl rfl (by kernel_rfl) (fun _ _ _ h => h) (Or.inl ⟨by rfl, ?_⟩) hHeld ?_ ?_
 rotate_left
 {
 rintro w' ⟨s0, s1, s2, s3, s4, s5, s6, s7, s8, s9, bv⟩
 go_simp
 with_reducible rfl
 }
 rotate_left
 {
 simp only [Act.put, List.setIfInBounds_toArray, List.set_cons_zero, List.set_cons_succ, i64_w, i32_w]
 rfl
 }
 refine take_ (i := 3) (N := some 28) (v := ?_) (a' := ?_) #[true, false, true, true, false, false, false] rfl rfl (by kernel_rfl) (fun _ _ _ h => h) (Or.inl ⟨by rfl, ?_⟩) hHeld ?_ ?_
 rotate_left
 {
 rintro w' ⟨s0, s1, s2, s3, s4, s5, s6, s7, s8, s9, bv⟩
 go_simp
 with_reducible rfl
 }
 rotate_left
 {
 simp only [Act.put, List.setIfInBounds_toArray, List.set_cons_zero, List.set_cons_succ, i64_w, i32_w]
 rfl
 }
 refine one_ (i := 1) (N := some 26) #[true, true, true, true, false, false, false] rfl rfl (by kernel_rfl) (by decide) (fun K hK => ?_)
 refine goes_ Try.func66 (by kernel_rfl) rfl #[.agg #[.int .i64 ae, .int .i64 af, .bool ag, .bool ah, .int .i64 ad, .int .i64 ai, .int .i64 aj, .int .i64 ak, .int .i64 al, .slice A0_9 ac.length ao, .slice A0_10 ab.length an]] (by rfl) rfl rfl wT ?_
 with_reducible refine (spec_l05Head.calls bl ae af ag ah ad ai aj ak al _ _ ac _ _ ab be _ ?side1 ?side2 ?side3 ?side4 A1006.out).mono ?_
 (case side1 => exact Kd.C_below HR0_9.out wB)
 (case side2 => exact bg.out)
 (case side3 => exact Kd.C_below HR0_10.out wB)
 (case side4 => exact ar.out)
 rintro e bz ⟨bB, rfl, bf, hb⟩
 refine ⟨_, rfl, ?_⟩
 have n0_ := Aside0.mk (Kd.R_lower bf (below_size wB))
 have n1_ := Aside0.mk (blk_below (Bh aa) hb)
 have n2_ := Aside0.mk (below_step wB hb)
 clear aa
 clear HB
 have aq := n0_
 have aa := n1_
 have HB := n2_
 clear n0_ n1_ n2_
 (try clear hb)
 (try clear hb2)
 (try clear hk)
 (try clear hi)
 (try clear bf)
 obtain ⟨bn, bo, bi⟩ := Kd.R_slice aq.out
 (first | subst bi | (injection bi with f1_ f2_ f3_; have f4_ := f1_.symm; have f5_ := f3_.symm; clear f1_ f2_ f3_; subst f4_; subst f5_))
 refine hK.out _ _ ⟨(blk_cell aa.out 0).trans rfl, (blk_cell aa.out 1).trans rfl, (blk_cell aa.out 2).trans rfl, (blk_cell aa.out 3).trans rfl, (blk_cell aa.out 4).trans rfl, (blk_cell aa.out 5).trans rfl, (blk_cell aa.out 6).trans rfl, (blk_cell aa.out 7).trans rfl, (blk_cell aa.out 8).trans rfl, (blk_cell aa.out 9).trans rfl, (blk_cell aa.out 10).trans rfl⟩ (fun hHeld => ?_)
 clear hK K
 refine norm_ (a' := ?_) ?_ ?_
 rotate_left
 {
 show Act.put _ (some 26) _ = _
 simp only [Act.put, List.setIfInBounds_toArray, List.set_cons_zero, List.set_cons_succ, i64_w, i32_w]
 rfl
 }
 refine one_ (i := 4) (N := some 29) #[true, true, true, true, true, false, false] rfl rfl (by kernel_rfl) (by decide) (fun K hK => ?_)
 refine goes_ Try.func32 (by kernel_rfl) rfl #[.slice bn be.length bo, .slice A0_10 ab.length an] (by rfl) rfl rfl wT ?_
 with_reducible refine (spec_l01Join.calls bl _ _ be _ _ ab bk _ ?side1 ?side2 ?side3 ?side4 A1007.out).mono ?_
 (case side1 => exact Ch aq)
 (case side2 => exact (Kd.R_reads' aq.out).2.1)
 (case side3 => exact Kd.C_below HR0_10.out wB)
 (case side4 => exact ar.out)
 rintro e bA ⟨bC, rfl, bf, hb⟩
 refine ⟨_, rfl, ?_⟩
 have n0_ := Aside0.mk (Kd.R_elder' (Rh aq) (Kd.R_base bf) hb)
 have n1_ := Aside0.mk (Kd.R_lower (Kd.R_new' bf (Kd.R_lt (Rh aq))) (below_size wB))
 have n2_ := Aside0.mk (blk_below (Bh aa) hb)
 have n3_ := Aside0.mk (below_step wB hb)
 clear aq
 clear aa
 clear HB
 have aq := n0_
 have bs := n1_
 have aa := n2_
 have HB := n3_
 clear n0_ n1_ n2_ n3_
 (try clear hb)
 (try clear hb2)
 (try clear hk)
 (try clear hi)
 (try clear bf)
 refine hK.out _ _ ⟨(blk_cell aa.out 0).trans rfl, (blk_cell aa.out 1).trans rfl, (blk_cell aa.out 2).trans rfl, (blk_cell aa.out 3).trans rfl, (blk_cell aa.out 4).trans rfl, (blk_cell aa.out 5).trans rfl, (blk_cell aa.out 6).trans rfl, (blk_cell aa.out 7).trans rfl, (blk_cell aa.out 8).trans rfl, (blk_cell aa.out 9).trans rfl, (blk_cell aa.out 10).trans rfl⟩ (fun hHeld => ?_)
 clear hK K
 refine norm_ (a' := ?_) ?_ ?_
 rotate_left
 {
 show Act.put _ (some 29) _ = _
 simp only [Act.put, List.setIfInBounds_toArray, List.set_cons_zero, List.set_cons_succ, i64_w, i32_w]
 rfl
 }
 refine pure_ (i := 5) (N := some 2) (v := ?_) (a' := ?_) #[true, true, true, true, true, true, false] rfl rfl (by kernel_rfl) (fun _ _ _ h => h) (Or.inl ⟨by rfl, ?_⟩) ?_ ?_
 rotate_left
 {
 intro w'
 go_simp
 with_reducible rfl
 }
 rotate_left
 {
 simp only [Act.put, List.setIfInBounds_toArray, List.set_cons_zero, List.set_cons_succ, i64_w, i32_w]
 rfl
 }
 refine pure_ (i := 6) (N := some 3) (v := ?_) (a' := ?_) #[true, true, true, true, true, true, true] rfl rfl (by kernel_rfl) (fun _ _ _ h => h) (Or.inl ⟨by rfl, ?_⟩) ?_ ?_
 rotate_left
 {
 intro w'
 go_simp
 with_reducible rfl
 }
 rotate_left
 {
 simp only [Act.put, List.setIfInBounds_toArray, List.set_cons_zero, List.set_cons_succ, i64_w, i32_w]
 rfl
 }
 refine done_ (by kernel_rfl) ?_
 try go_wp2
 go_ret2
 exact ⟨_, eR, Kd.R_mono (Rh bs) (fun _ hk => trivial), wB⟩
 }
 }
 )
 }
 {
 replace c3 := Bool.eq_false_iff.mpr c3
 subst c3
 have H1 : (some (([] : List Int), 1)) = some (r1, r2) := by rw [if_neg (show ¬ (false = true) by decide)] at H; exact H
 clear H
 have H := H1
 clear H1
 simp only [Option.some.injEq, Prod.mk.injEq] at H
 obtain ⟨rfl, rfl⟩ := H
 go_enter Try.func28, Try.ntmps28
 go_wp2_with (first | ((with_reducible refine gate_dst (N := 1) rfl ?_); (try (refine gate_guard (by rfl) ?_; dsimp only)); refine boxE 1 #[.int .i64 ae, .int .i64 af, .bool ag, .bool ah, .int .i64 ad, .int .i64 ai, .int .i64 aj, .int .i64 ak, .int .i64 al, .slice A0_9 ac.length ao, .slice A0_10 ab.length an] 25 ?_; intro am hg bp hbox hb; have aa := Aside0.mk (hbox); have bh := Aside0.mk ((by rw [hg]; exact (below_size wB) : w.heap.size ≤ am)); replace HB := Aside0.mk (below_step wB hb); have bq := bh; clear hb hbox hg; obtain ⟨⟨ay, az, aA, aB, aC, aD, aE, aF, aG, aH, au⟩, aI, aJ, aK, aL, aM, aN, aO, aP, aQ, aR, av⟩ := cells11 aa.out) | ((with_reducible refine gate_callee (f := 65) rfl ?_); refine gL (some 5) Try.func65 #[.agg #[.int .i64 ae, .int .i64 af, .bool ag, .bool ah, .int .i64 ad, .int .i64 ai, .int .i64 aj, .int .i64 ak, .int .i64 al, .slice A0_9 ac.length ao, .slice A0_10 ab.length an]] ?_; (with_reducible refine (spec_l05OK.calls ae af ag ah ad ai aj ak al _ _ ac _ _ ab false _ ?side1 ?side2 ?side3 ?side4 A2.out).mono ?_); (case side1 => exact Kd.C_below HR0_9.out wB); (case side2 => exact bg.out); (case side3 => exact Kd.C_below HR0_10.out wB); (case side4 => exact ar.out); rintro e br ⟨rfl, hb⟩; refine ⟨_, rfl, ?_⟩; replace aa := Aside0.mk (blk_below (Bh aa) hb); replace HB := Aside0.mk (below_step wB hb); clear hb))
 go_ret2
 exact ⟨_, eR, by first | exact Kd.R_nil _ _ _ _ _ | exact Kd.N_nil _ _ _ _ _ | exact Kd.V_nil _ _ _ _ _ | exact Kd.Q_nil _ _ _ _ _ | exact Kd.S_nil _ _ _ _ _, wB⟩
 }

/-! ### spec_AddrKind: function 63 -/
def spec_AddrKind.f (a0 : Int) : Option (Int) := (spec_l02AddrOK.f a0).bind fun t328 => (if t328 = true then (if a0 = 0 then (some 1) else (if (a0 / 16777216) = 127 then (some 2) else (if a0 = 4294967295 then (some 4) else (if (a0 / 268435456) = 14 then (some 3) else (if (a0 / 268435456) = 15 then (some 5) else (some 6)))))) else (some 0))
set_option maxHeartbeats 60000000 in
set_option maxRecDepth 100000 in
theorem spec_AddrKind.calls (a0 : Int) (r : Int) (w : World) (h : spec_AddrKind.f a0 = some r) :
 Calls Try.prog 63 #[.int .i64 a0] w fun e w' => e = .returned (.int .i64 r) ∧ Drawn0 w w' := by
 have H : ((spec_l02AddrOK.f a0).bind fun aa => (if aa = true then (if a0 = 0 then (some 1) else (if (a0 / 16777216) = 127 then (some 2) else (if a0 = 4294967295 then (some 4) else (if (a0 / 268435456) = 14 then (some 3) else (if (a0 / 268435456) = 15 then (some 5) else (some 6)))))) else (some 0))) = some r := h
 clear h
 replace H := Option.bind_eq_some_iff.mp H
 obtain ⟨aa, A20, H⟩ := H
 have A2 := Aside0.mk A20
 clear A20
 by_cases c3 : aa = true
 subst c3
 have H1 : (if a0 = 0 then (some 1) else (if (a0 / 16777216) = 127 then (some 2) else (if a0 = 4294967295 then (some 4) else (if (a0 / 268435456) = 14 then (some 3) else (if (a0 / 268435456) = 15 then (some 5) else (some 6)))))) = some r := by rw [if_pos rfl] at H; exact H
 clear H
 have H := H1
 clear H1
 by_cases c4 : a0 = 0
 rw [if_pos c4] at H
 have c4b0 : (a0 == 0) = true := beq_iff_eq.mpr c4
 have c4b1 : (a0 != 0) = false := bne_eq_false_iff_eq.mpr c4
 clear c4
 obtain rfl := Option.some.inj H
 rotate_left
 rw [if_neg c4] at H
 have c4b0 : (a0 == 0) = false := beq_eq_false_iff_ne.mpr c4
 have c4b1 : (a0 != 0) = true := bne_iff_ne.mpr c4
 by_cases c5 : (a0 / 16777216) = 127
 rw [if_pos c5] at H
 have c5b0 : ((a0 / 16777216) == 127) = true := beq_iff_eq.mpr c5
 have c5b1 : ((a0 / 16777216) != 127) = false := bne_eq_false_iff_eq.mpr c5
 clear c5
 obtain rfl := Option.some.inj H
 rotate_left
 rw [if_neg c5] at H
 have c5b0 : ((a0 / 16777216) == 127) = false := beq_eq_false_iff_ne.mpr c5
 have c5b1 : ((a0 / 16777216) != 127) = true := bne_iff_ne.mpr c5
 by_cases c6 : a0 = 4294967295
 rw [if_pos c6] at H
 have c6b0 : (a0 == 4294967295) = true := beq_iff_eq.mpr c6
 have c6b1 : (a0 != 4294967295) = false := bne_eq_false_iff_eq.mpr c6
 clear c6
 obtain rfl := Option.some.inj H
 rotate_left
 rw [if_neg c6] at H
 have c6b0 : (a0 == 4294967295) = false := beq_eq_false_iff_ne.mpr c6
 have c6b1 : (a0 != 4294967295) = true := bne_iff_ne.mpr c6
 by_cases c7 : (a0 / 268435456) = 14
 rw [if_pos c7] at H
 have c7b0 : ((a0 / 268435456) == 14) = true := beq_iff_eq.mpr c7
 have c7b1 : ((a0 / 268435456) != 14) = false := bne_eq_false_iff_eq.mpr c7
 clear c7
 obtain rfl := Option.some.inj H
 rotate_left
 rw [if_neg c7] at H
 have c7b0 : ((a0 / 268435456) == 14) = false := beq_eq_false_iff_ne.mpr c7
 have c7b1 : ((a0 / 268435456) != 14) = true := bne_iff_ne.mpr c7
 by_cases c8 : (a0 / 268435456) = 15
 rw [if_pos c8] at H
 have c8b0 : ((a0 / 268435456) == 15) = true := beq_iff_eq.mpr c8
 have c8b1 : ((a0 / 268435456) != 15) = false := bne_eq_false_iff_eq.mpr c8
 clear c8
 obtain rfl := Option.some.inj H
 rotate_left
 rw [if_neg c8] at H
 have c8b0 : ((a0 / 268435456) == 15) = false := beq_eq_false_iff_ne.mpr c8
 have c8b1 : ((a0 / 268435456) != 15) = true := bne_iff_ne.mpr c8
 obtain rfl := Option.some.inj H
 rotate_left
 replace c3 := Bool.eq_false_iff.mpr c3
 subst c3
 have H1 : (some 0) = some r := by rw [if_neg (show ¬ (false = true) by decide)] at H; exact H
 clear H
 have H := H1
 clear H1
 obtain rfl := Option.some.inj H
 rotate_left
 all_goals (
 go_enter Try.func63, Try.ntmps63
 go_wp2_with (first | ((with_reducible refine gate_callee (f := 48) rfl ?_); refine gL (some 5) Try.func48 #[.int .i64 a0] ?_; (with_reducible refine (spec_l02AddrOK.calls a0 _ _ A2.out).mono ?_); rintro e w' ⟨rfl, ⟨nd, rfl⟩⟩; refine ⟨_, rfl, ?_⟩))
 go_ret
 exact ⟨by first | rfl | (simp; done) | (simp [*]; done), by repeat (first | exact Drawn0.refl _ | apply Drawn0.step)⟩
 )

/-! ### spec_MayComplain: function 23 -/
def spec_MayComplain.j0 : Nat → Bool → Int → Int → Bool → Bool → Int → Int → Int → Int → Int → List Int → List Int → Option (Bool)
  | 0, _, _, _, _, _, _, _, _, _, _, _, _ => none
  | k + 1, al, ac, ad, ae, af, ag, ah, ab, ai, aj, ak, aa => if al = true then (some false) else (if ab = 1 then (if (aa.length : Int) > 0 then (if 0 < (aa.length : Int) then (if (rd aa 0) = 8 then (some true) else (some ((rd aa 0) == 0))) else (none)) else (some false)) else (some true))
def spec_MayComplain.f (k : Nat) (ae : Int) (af : Int) (ag : Bool) (ah : Bool) (ab : Int) (ai : Int) (aj : Int) (ac : Int) (ad : Int) (ak : List Int) (aa : List Int) : Option (Bool) := (spec_EncodeIP.f k ae af ag ah ab ai aj ac ad ak aa).bind fun al => (if al.2 = 0 then (if ab = 0 then ((spec_AddrKind.f ac).bind fun am => (if am = 6 then ((spec_AddrKind.f ad).bind fun an => (spec_MayComplain.j0 k (an != 6) ae af ag ah ab ai aj ac ad ak aa)) else (spec_MayComplain.j0 k true ae af ag ah ab ai aj ac ad ak aa))) else (spec_MayComplain.j0 k true ae af ag ah ab ai aj ac ad ak aa)) else (spec_MayComplain.j0 k true ae af ag ah ab ai aj ac ad ak aa))
theorem spec_MayComplain.mono_l : ∀ k, (∀ y0 y1 y2 y3 y4 y5 y6 y7 y8 y9 aa ab, LeO (spec_MayComplain.j0 k y0 y1 y2 y3 y4 y5 y6 y7 y8 y9 aa ab) (spec_MayComplain.j0 (k + 1) y0 y1 y2 y3 y4 y5 y6 y7 y8 y9 aa ab))
  | 0 => fun _ _ _ _ _ _ _ _ _ _ _ _ r h => by simp [spec_MayComplain.j0] at h
  | k + 1 => by
    have ih0 := spec_MayComplain.mono_l k
    · intro y0 y1 y2 y3 y4 y5 y6 y7 y8 y9 aa ab
      unfold spec_MayComplain.j0
      repeat' first
      | (with_reducible exact ih0 _ _ _ _ _ _ _ _ _ _ _ _)
      | (with_reducible exact spec_EncodeIP.mono _ _ _ _ _ _ _ _ _ _ _ _)
      | (with_reducible exact LeO.refl _)
      | (with_reducible exact LeO.none _)
      | (with_reducible refine LeO.ite ?_ ?_)
      | (with_reducible refine LeO.bind ?_ (fun _ => ?_))
      | exact ih0 _ _ _ _ _ _ _ _ _ _ _ _
      | exact spec_EncodeIP.mono _ _ _ _ _ _ _ _ _ _ _ _
      | exact LeO.none _
      | refine LeO.ite ?_ ?_
      | refine LeO.bind ?_ (fun _ => ?_)
theorem spec_MayComplain.mono : ∀ a0 a1 a2 a3 a4 a5 a6 a7 a8 a9 aa k, LeO (spec_MayComplain.f k a0 a1 a2 a3 a4 a5 a6 a7 a8 a9 aa) (spec_MayComplain.f (k + 1) a0 a1 a2 a3 a4 a5 a6 a7 a8 a9 aa) := by
 intro a0 a1 a2 a3 a4 a5 a6 a7 a8 a9 aa k
 have ih0 := spec_MayComplain.mono_l k
 unfold spec_MayComplain.f
 repeat' first
     | (with_reducible exact ih0 _ _ _ _ _ _ _ _ _ _ _ _)
     | (with_reducible exact spec_EncodeIP.mono _ _ _ _ _ _ _ _ _ _ _ _)
     | (with_reducible exact LeO.refl _)
     | (with_reducible exact LeO.none _)
     | (with_reducible refine LeO.ite ?_ ?_)
     | (with_reducible refine LeO.bind ?_ (fun _ => ?_))
     | exact ih0 _ _ _ _ _ _ _ _ _ _ _ _
     | exact spec_EncodeIP.mono _ _ _ _ _ _ _ _ _ _ _ _
     | exact LeO.none _
     | refine LeO.ite ?_ ?_
     | refine LeO.bind ?_ (fun _ => ?_)
set_option maxHeartbeats 60000000 in
set_option maxRecDepth 100000 in
theorem spec_MayComplain.calls (k : Nat) (ah : Int) (ai : Int) (aj : Bool) (ak : Bool) (ab : Int) (al : Int) (ac : Int) (ae : Int) (af : Int) (A0_9 : Option Addr) (aW : Nat) (ad : List Int) (A0_10 : Option Addr) (av : Nat) (aa : List Int) (r : Bool) (w : World) (hr0_9 : Kd.C (Kd.int .u8) w A0_9 ad.length ad) (hc0_9 : ad.length ≤ aW) (hr0_10 : Kd.C (Kd.int .u8) w A0_10 aa.length aa) (hc0_10 : aa.length ≤ av) (h : spec_MayComplain.f k ah ai aj ak ab al ac ae af ad aa = some r) :
 Calls Try.prog 23 #[.agg #[.int .i64 ah, .int .i64 ai, .bool aj, .bool ak, .int .i64 ab, .int .i64 al, .int .i64 ac, .int .i64 ae, .int .i64 af, .slice A0_9 ad.length aW, .slice A0_10 aa.length av]] w fun e w' => e = .returned (.bool r) ∧ Below w.heap.size w w' := by
 have hu25 := Try.underlying25
 have HR0_9 := Aside0.mk hr0_9
 have bn := Aside0.mk hc0_9
 clear hr0_9 hc0_9
 have HR0_10 := Aside0.mk hr0_10
 have bl := Aside0.mk hc0_10
 clear hr0_10 hc0_10
 have HB := Aside0.mk (Below.refl w.heap.size w)
 have H : ((spec_EncodeIP.f k ah ai aj ak ab al ac ae af ad aa).bind fun bo => (if bo.2 = 0 then (if ab = 0 then ((spec_AddrKind.f ae).bind fun ar => (if ar = 6 then ((spec_AddrKind.f af).bind fun aX => (spec_MayComplain.j0 k (aX != 6) ah ai aj ak ab al ac ae af ad aa)) else (spec_MayComplain.j0 k true ah ai aj ak ab al ac ae af ad aa))) else (spec_MayComplain.j0 k true ah ai aj ak ab al ac ae af ad aa)) else (spec_MayComplain.j0 k true ah ai aj ak ab al ac ae af ad aa))) = some r := h
 clear h
 replace H := Option.bind_eq_some_iff.mp H
 obtain ⟨⟨br, ay⟩, A20, H⟩ := H
 try dsimp only at H
 have A2 := Aside0.mk A20
 clear A20
 have bm := Aside0.mk H
 clear H
 go_enter Try.func23, Try.ntmps23
 go_upto_region 2 with (first | ((with_reducible refine gate_dst (N := 1) rfl ?_); refine boxE 1 #[.int .i64 ah, .int .i64 ai, .bool aj, .bool ak, .int .i64 ab, .int .i64 al, .int .i64 ac, .int .i64 ae, .int .i64 af, .slice A0_9 ad.length aW, .slice A0_10 aa.length av] 25 ?_; intro bk hg bu hbox hb; have ag := Aside0.mk (hbox); have bp := Aside0.mk ((by rw [hg]; exact (below_size wB) : w.heap.size ≤ bk)); replace HB := Aside0.mk (below_step wB hb); have bv := bp; clear hb hbox hg; obtain ⟨⟨a0, a1, a2, a3, a4, a5, a6, a7, a8, a9, aY⟩, ba, bb, bc, bd, be, bf, bg, bh, bi, bj, aZ⟩ := cells11 ag.out) | ((with_reducible refine gate_callee (f := 28) rfl ?_); refine gL (some 7) Try.func28 #[.agg #[.int .i64 ah, .int .i64 ai, .bool aj, .bool ak, .int .i64 ab, .int .i64 al, .int .i64 ac, .int .i64 ae, .int .i64 af, .slice A0_9 ad.length aW, .slice A0_10 aa.length av]] ?_; (with_reducible refine (spec_EncodeIP.calls k ah ai aj ak ab al ac ae af _ _ ad _ _ aa br ay _ ?side1 ?side2 ?side3 ?side4 A2.out).mono ?_); (case side1 => exact Kd.C_below HR0_9.out wB); (case side2 => exact bn.out); (case side3 => exact Kd.C_below HR0_10.out wB); (case side4 => exact bl.out); rintro e bw ⟨bA, rfl, bq, hb⟩; refine ⟨_, rfl, ?_⟩; have bz := Aside0.mk (Kd.R_lower bq (below_size wB)); replace ag := Aside0.mk (blk_below (Bh ag) hb); replace HB := Aside0.mk (below_step wB hb); clear hb; (try clear bq)))
 (try simp only [Act.put, List.setIfInBounds_toArray, List.set_cons_zero, List.set_cons_succ])
 go_cut [28] (fun bs wc => ∃ (kq : Nat) (aT : Bool), bs = .bool aT ∧ Aside0 (spec_MayComplain.j0 kq aT ah ai aj ak ab al ac ae af ad aa = some r) ∧ Aside0 (kq ≤ k) ∧ Aside0 (wc.heap[bk]? = some (.cells #[.int .i64 ah, .int .i64 ai, .bool aj, .bool ak, .int .i64 ab, .int .i64 al, .int .i64 ac, .int .i64 ae, .int .i64 af, (.slice A0_9 ad.length aW), (.slice A0_10 aa.length av)] 25 (0, 0))) ∧ Aside0 (Below w.heap.size w wc))
 case first => (
 have H := bm.out
 clear bm
 by_cases am : ay = 0
 rw [if_pos am] at H
 have c1004b0 : (ay == 0) = true := beq_iff_eq.mpr am
 have c1004b1 : (ay != 0) = false := bne_eq_false_iff_eq.mpr am
 clear am
 (first | rw [c1004b0] | (simp only [i64_w, i32_w]; rw [c1004b0]) | skip)
 by_cases an : ab = 0
 rw [if_pos an] at H
 have c1005b0 : (ab == 0) = true := beq_iff_eq.mpr an
 have c1005b1 : (ab != 0) = false := bne_eq_false_iff_eq.mpr an
 clear an
 replace H := Option.bind_eq_some_iff.mp H
 obtain ⟨ar, A10060, H⟩ := H
 have A1006 := Aside0.mk A10060
 clear A10060
 by_cases ao : ar = 6
 rw [if_pos ao] at H
 have c1007b0 : (ar == 6) = true := beq_iff_eq.mpr ao
 have c1007b1 : (ar != 6) = false := bne_eq_false_iff_eq.mpr ao
 clear ao
 replace H := Option.bind_eq_some_iff.mp H
 obtain ⟨aX, A10080, H⟩ := H
 have A1008 := Aside0.mk A10080
 clear A10080
 have H' := Aside0.mk H
 clear H
 rotate_left
 rw [if_neg ao] at H
 have c1007b0 : (ar == 6) = false := beq_eq_false_iff_ne.mpr ao
 have c1007b1 : (ar != 6) = true := bne_iff_ne.mpr ao
 have H' := Aside0.mk H
 clear H
 rotate_left
 rw [if_neg an] at H
 have c1005b0 : (ab == 0) = false := beq_eq_false_iff_ne.mpr an
 have c1005b1 : (ab != 0) = true := bne_iff_ne.mpr an
 have H' := Aside0.mk H
 clear H
 rotate_left
 rw [if_neg am] at H
 have c1004b0 : (ay == 0) = false := beq_eq_false_iff_ne.mpr am
 have c1004b1 : (ay != 0) = true := bne_iff_ne.mpr am
 (first | rw [c1004b0] | (simp only [i64_w, i32_w]; rw [c1004b0]) | skip)
 have H' := Aside0.mk H
 clear H
 rotate_left
 iterate 3 (
 focus (
 obtain ⟨⟨az, aA, aB, aC, aD, aE, aF, aG, aH, aI, aw⟩, aJ, aK, aL, aM, aN, aO, aP, aQ, aR, aS, ax⟩ := cells11 ag.out
 )
 rotate_left
 )
 rotate_right 3
 iterate 2 (
 focus (
 go_wp2_with (first | (go_at_call 63; (with_reducible refine (spec_AddrKind.calls ae ar _ A1006.out).mono ?_); rintro e w' ⟨rfl, ⟨nd, rfl⟩⟩) | (go_at_call 63; (with_reducible refine (spec_AddrKind.calls af aX _ A1008.out).mono ?_); rintro e w' ⟨rfl, ⟨nd, rfl⟩⟩))
 all_goals (try (rename_i h_; exfalso; cases h_; done))
 all_goals (try (rename_i h_ h2_; exfalso; cases h_; done))
 go_meet
 )
 rotate_left
 )
 rotate_right 2
 {
 case rel => exact ⟨_, ((aX != 6)), eS, H', ⟨by first | omega | exact Nat.le_refl _⟩, ⟨Bh ag⟩, ⟨wB⟩⟩
 }
 {
 case rel => exact ⟨_, (true), eS, H', ⟨by first | omega | exact Nat.le_refl _⟩, ⟨Bh ag⟩, ⟨wB⟩⟩
 }
 {
 go_wp2
 all_goals (try (rename_i h_; exfalso; cases h_; done))
 all_goals (try (rename_i h_ h2_; exfalso; cases h_; done))
 go_meet
 case rel => exact ⟨_, (true), eS, H', ⟨by first | omega | exact Nat.le_refl _⟩, ⟨Bh ag⟩, ⟨wB⟩⟩
 }
 {
 go_wp2
 all_goals (try (rename_i h_; exfalso; cases h_; done))
 all_goals (try (rename_i h_ h2_; exfalso; cases h_; done))
 go_meet
 case rel => exact ⟨_, (true), eS, H', ⟨by first | omega | exact Nat.le_refl _⟩, ⟨Bh ag⟩, ⟨wB⟩⟩
 }
 )
 case rest => (
 clear bm
 try clear c0
 try clear am
 try clear c1004b0
 try clear c1004b1
 try clear an
 try clear c1005b0
 try clear c1005b1
 try clear ao
 try clear c1007b0
 try clear c1007b1
 try clear a0 a1 aY a2 a3 a4 a5 a6 a7 a8 a9 ba bb aZ bc bd be bf bg bh bi bj
 try clear az aA aw aB aC aD aE aF aG aH aI aJ aK ax aL aM aN aO aP aQ aR aS
 obtain ⟨kq, aT, rfl, HA, HJ2, ag, HB⟩ := hcut
 cases kq with
 | zero => exact absurd HA.out (by simp [spec_MayComplain.j0])
 | succ bB => {
 have H := HA.out
 clear HA
 simp only [spec_MayComplain.j0] at H
 by_cases aU : aT = true
 subst aU
 have H1 : (some false) = some r := by rw [if_pos rfl] at H; exact H
 clear H
 have H := H1
 clear H1
 obtain rfl := Option.some.inj H
 rotate_left
 replace aU := Bool.eq_false_iff.mpr aU
 subst aU
 have H1 : (if ac = 1 then (if (aa.length : Int) > 0 then (if 0 < (aa.length : Int) then (if (rd aa 0) = 8 then (some true) else (some ((rd aa 0) == 0))) else (none)) else (some false)) else (some true)) = some r := by rw [if_neg (show ¬ (false = true) by decide)] at H; exact H
 clear H
 have H := H1
 clear H1
 by_cases ap : ac = 1
 rw [if_pos ap] at H
 have c1010b0 : (ac == 1) = true := beq_iff_eq.mpr ap
 have c1010b1 : (ac != 1) = false := bne_eq_false_iff_eq.mpr ap
 clear ap
 by_cases au : (aa.length : Int) > 0
 rw [if_pos au] at H
 have c1011b0 : decide (0 < (aa.length : Int)) = true := decide_eq_true au
 have c1011b1 : decide (0 < aa.length) = true := decide_eq_true (by omega)
 clear au
 by_cases aV : 0 < (aa.length : Int)
 rw [if_pos aV] at H
 have c1012b0 : decide (0 < (aa.length : Int)) = true := decide_eq_true aV
 have c1012b1 : decide (0 < aa.length) = true := decide_eq_true (by omega)
 clear aV
 by_cases aq : (rd aa 0) = 8
 rw [if_pos aq] at H
 have c1013b0 : ((rd aa 0) == 8) = true := beq_iff_eq.mpr aq
 have c1013b1 : ((rd aa 0) != 8) = false := bne_eq_false_iff_eq.mpr aq
 clear aq
 obtain rfl := Option.some.inj H
 rotate_left
 rw [if_neg aq] at H
 have c1013b0 : ((rd aa 0) == 8) = false := beq_eq_false_iff_ne.mpr aq
 have c1013b1 : ((rd aa 0) != 8) = true := bne_iff_ne.mpr aq
 obtain rfl := Option.some.inj H
 rotate_left
 rw [if_neg aV] at H
 exact absurd H (by simp)
 rw [if_neg au] at H
 have c1011b0 : decide (0 < (aa.length : Int)) = false := decide_eq_false au
 have c1011b1 : decide (0 < aa.length) = false := decide_eq_false (by omega)
 clear au
 obtain rfl := Option.some.inj H
 rotate_left
 rw [if_neg ap] at H
 have c1010b0 : (ac == 1) = false := beq_eq_false_iff_ne.mpr ap
 have c1010b1 : (ac != 1) = true := bne_iff_ne.mpr ap
 obtain rfl := Option.some.inj H
 rotate_left
 {
 go_wp2
 all_goals (try (rename_i h_; exfalso; cases h_; done))
 all_goals (try (rename_i h_ h2_; exfalso; cases h_; done))
 go_ret
 exact ⟨eR, wB⟩
 }
 all_goals (
 obtain ⟨⟨az, aA, aB, aC, aD, aE, aF, aG, aH, aI, aw⟩, aJ, aK, aL, aM, aN, aO, aP, aQ, aR, aS, ax⟩ := cells11 ag.out
 )
 iterate 2 (
 focus (
 have p336 : 0 ≤ (0 : Int) := (by omega)
 have q336 : 0 < (aa.length : Int) := dT
 obtain ⟨ad336, e336, hx336_0⟩ := Kd.at_int HR0_10.out 0 p336 q336
 cases e336
 have qi336 : (0 < aa.length) = True := eq_true (by omega)
 (try rw [show ((0 : Int)).toNat = 0 from rfl] at hx336_0)
 (try rw [Addr.add_zero'] at hx336_0)
 replace hx336_0 := (HB.out.cell (World.block_lt_of_cell? w _ hx336_0)).trans hx336_0
 replace p336 := eq_true p336
 replace q336 := eq_true q336
 )
 rotate_left
 )
 rotate_right 2
 {
 go_wp2
 all_goals (try (rename_i h_; exfalso; cases h_; done))
 all_goals (try (rename_i h_ h2_; exfalso; cases h_; done))
 go_ret
 exact ⟨eR, wB⟩
 }
 {
 have p337 : 0 ≤ (0 : Int) := (by omega)
 have q337 : 0 < (aa.length : Int) := dT
 obtain ⟨ad337, e337, hx337_0⟩ := Kd.at_int HR0_10.out 0 p337 q337
 obtain rfl : ad336 = ad337 := (by injection e337)
 have qi337 : (0 < aa.length) = True := eq_true (by omega)
 (try rw [show ((0 : Int)).toNat = 0 from rfl] at hx337_0)
 (try rw [Addr.add_zero'] at hx337_0)
 replace hx337_0 := (HB.out.cell (World.block_lt_of_cell? w _ hx337_0)).trans hx337_0
 replace p337 := eq_true p337
 replace q337 := eq_true q337
 go_wp2
 all_goals (try (rename_i h_; exfalso; cases h_; done))
 all_goals (try (rename_i h_ h2_; exfalso; cases h_; done))
 go_ret
 exact ⟨eR, wB⟩
 }
 all_goals (
 go_wp2
 all_goals (try (rename_i h_; exfalso; cases h_; done))
 all_goals (try (rename_i h_ h2_; exfalso; cases h_; done))
 go_ret
 exact ⟨eR, wB⟩
 )
 }
 )

end Go.Proofs.Ytckhadlmhbhngaa.PFnComplain
