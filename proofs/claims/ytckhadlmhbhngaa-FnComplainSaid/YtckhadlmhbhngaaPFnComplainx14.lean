-- Written for this claim by a program of this session (wip/mkprint.py: the print, turned at a few places). Not trusted: Lean checks it.
import Derived.Test.YtckhadlmhbhngaaPFnComplainx0
import Derived.Test.YtckhadlmhbhngaaPFnComplainx3
import Derived.Test.YtckhadlmhbhngaaPFnComplainx9
import Derived.Test.YtckhadlmhbhngaaPFnComplainx12
import Derived.Test.YtckhadlmhbhngaaPFnComplainx13
namespace Go.Proofs.Ytckhadlmhbhngaa.PFnComplain
open Go.RowKit Go.Proofs.YtckhadlmhbhngaaW.PrintWords Go.Proofs.YtckhadlmhbhngaaW.PrintLast Go.Proofs.YtckhadlmhbhngaaW.PrintMore
attribute [local go_sem] max2_int min2_int max_two min_two max_three min_three max_four min_four   -- for this text's walks alone
set_option linter.unusedVariables false
set_option linter.unusedSimpArgs false

/-! ### spec_Complain: function 21 -/
def spec_Complain.j0 : Nat → Int → Int → Int → Int → Bool → Int → Int → Bool → Bool → Int → Int → Int → Int → Int → List Int → List Int → Option (Int × Int × Bool × Bool × Int × Int × Int × Int × Int × List Int × List Int × Int)
  | 0, _, _, _, _, _, _, _, _, _, _, _, _, _, _, _, _ => none
  | k + 1, x1, x2, x3, x4, ao, ad, ae, af, ag, ah, ai, aj, ac, ak, ab, al => if ao = true then (some (0, 0, false, false, 0, 0, 0, 0, 0, ([] : List Int), ([] : List Int), 1)) else ((spec_EncodeIP.f k ad ae af ag ah ai aj ac ak ab al).bind fun aa => (if (wrap64 (28 + (ab.length : Int))) > (aa.1.length : Int) then (if 0 ≤ (aa.1.length : Int) then (if (aa.1.length : Int) ≤ (aa.1.length : Int) then ((spec_EncodeIcmp.f k x2 x3 x4 (aa.1.take ((aa.1.length : Int) : Int).toNat)).bind fun am => (some (0, 0, false, false, 0, 64, 1, x1, ac, ([] : List Int), am.1, 0))) else (none)) else (none)) else (if 0 ≤ (wrap64 (28 + (ab.length : Int))) then (if (wrap64 (28 + (ab.length : Int))) ≤ (aa.1.length : Int) then ((spec_EncodeIcmp.f k x2 x3 x4 (aa.1.take ((wrap64 (28 + (ab.length : Int))) : Int).toNat)).bind fun an => (some (0, 0, false, false, 0, 64, 1, x1, ac, ([] : List Int), an.1, 0))) else (none)) else (none))))
def spec_Complain.f (k : Nat) (ab : Int) (ac : Int) (ad : Bool) (ae : Bool) (af : Int) (ag : Int) (ah : Int) (ai : Int) (aj : Int) (ak : List Int) (aa : List Int) (a1 : Int) (a2 : Int) (a3 : Int) (a4 : Int) : Option (Int × Int × Bool × Bool × Int × Int × Int × Int × Int × List Int × List Int × Int) := (spec_MayComplain.f k ab ac ad ae af ag ah ai aj ak aa).bind fun al => (if al = true then ((spec_l02AddrOK.f a1).bind fun am => (if am = true then (if a2 = 3 then ((spec_l01In.f a3 0 255).bind fun an => (if an = true then ((spec_l01In.f a4 0 4294967295).bind fun ao => (spec_Complain.j0 k a1 a2 a3 a4 (!ao) ab ac ad ae af ag ah ai aj ak aa)) else (spec_Complain.j0 k a1 a2 a3 a4 true ab ac ad ae af ag ah ai aj ak aa))) else (if a2 = 11 then ((spec_l01In.f a3 0 255).bind fun ap => (if ap = true then ((spec_l01In.f a4 0 4294967295).bind fun aq => (spec_Complain.j0 k a1 a2 a3 a4 (!aq) ab ac ad ae af ag ah ai aj ak aa)) else (spec_Complain.j0 k a1 a2 a3 a4 true ab ac ad ae af ag ah ai aj ak aa))) else (spec_Complain.j0 k a1 a2 a3 a4 true ab ac ad ae af ag ah ai aj ak aa))) else (spec_Complain.j0 k a1 a2 a3 a4 true ab ac ad ae af ag ah ai aj ak aa))) else (spec_Complain.j0 k a1 a2 a3 a4 true ab ac ad ae af ag ah ai aj ak aa))
theorem spec_Complain.mono_l : ∀ k, (∀ y0 y1 y2 y3 y4 y5 y6 y7 y8 y9 aa ab ac ad ae af, LeO (spec_Complain.j0 k y0 y1 y2 y3 y4 y5 y6 y7 y8 y9 aa ab ac ad ae af) (spec_Complain.j0 (k + 1) y0 y1 y2 y3 y4 y5 y6 y7 y8 y9 aa ab ac ad ae af))
  | 0 => fun _ _ _ _ _ _ _ _ _ _ _ _ _ _ _ _ r h => by simp [spec_Complain.j0] at h
  | k + 1 => by
    have ih0 := spec_Complain.mono_l k
    · intro y0 y1 y2 y3 y4 y5 y6 y7 y8 y9 aa ab ac ad ae af
      unfold spec_Complain.j0
      repeat' first
      | (with_reducible exact ih0 _ _ _ _ _ _ _ _ _ _ _ _ _ _ _ _)
      | (with_reducible exact spec_EncodeIP.mono _ _ _ _ _ _ _ _ _ _ _ _)
      | (with_reducible exact spec_EncodeIcmp.mono _ _ _ _ _)
      | (with_reducible exact spec_MayComplain.mono _ _ _ _ _ _ _ _ _ _ _ _)
      | (with_reducible exact LeO.refl _)
      | (with_reducible exact LeO.none _)
      | (with_reducible refine LeO.ite ?_ ?_)
      | (with_reducible refine LeO.bind ?_ (fun _ => ?_))
      | exact ih0 _ _ _ _ _ _ _ _ _ _ _ _ _ _ _ _
      | exact spec_EncodeIP.mono _ _ _ _ _ _ _ _ _ _ _ _
      | exact spec_EncodeIcmp.mono _ _ _ _ _
      | exact spec_MayComplain.mono _ _ _ _ _ _ _ _ _ _ _ _
      | exact LeO.none _
      | refine LeO.ite ?_ ?_
      | refine LeO.bind ?_ (fun _ => ?_)
theorem spec_Complain.mono : ∀ a0 a1 a2 a3 a4 a5 a6 a7 a8 a9 aa ab ac ad ae k, LeO (spec_Complain.f k a0 a1 a2 a3 a4 a5 a6 a7 a8 a9 aa ab ac ad ae) (spec_Complain.f (k + 1) a0 a1 a2 a3 a4 a5 a6 a7 a8 a9 aa ab ac ad ae) := by
 intro a0 a1 a2 a3 a4 a5 a6 a7 a8 a9 aa ab ac ad ae k
 have ih0 := spec_Complain.mono_l k
 unfold spec_Complain.f
 repeat' first
     | (with_reducible exact ih0 _ _ _ _ _ _ _ _ _ _ _ _ _ _ _ _)
     | (with_reducible exact spec_EncodeIP.mono _ _ _ _ _ _ _ _ _ _ _ _)
     | (with_reducible exact spec_EncodeIcmp.mono _ _ _ _ _)
     | (with_reducible exact spec_MayComplain.mono _ _ _ _ _ _ _ _ _ _ _ _)
     | (with_reducible exact LeO.refl _)
     | (with_reducible exact LeO.none _)
     | (with_reducible refine LeO.ite ?_ ?_)
     | (with_reducible refine LeO.bind ?_ (fun _ => ?_))
     | exact ih0 _ _ _ _ _ _ _ _ _ _ _ _ _ _ _ _
     | exact spec_EncodeIP.mono _ _ _ _ _ _ _ _ _ _ _ _
     | exact spec_EncodeIcmp.mono _ _ _ _ _
     | exact spec_MayComplain.mono _ _ _ _ _ _ _ _ _ _ _ _
     | exact LeO.none _
     | refine LeO.ite ?_ ?_
     | refine LeO.bind ?_ (fun _ => ?_)
set_option maxHeartbeats 60000000 in
set_option maxRecDepth 100000 in
theorem spec_Complain.calls (k : Nat) (ad : Int) (ae : Int) (af : Bool) (ag : Bool) (ah : Int) (ai : Int) (aj : Int) (ac : Int) (ak : Int) (A0_9 : Option Addr) (a7 : Nat) (ab : List Int) (A0_10 : Option Addr) (ax : Nat) (aa : List Int) (a1 : Int) (a2 : Int) (a3 : Int) (a4 : Int) (r1 : Int) (r2 : Int) (r3 : Bool) (r4 : Bool) (r5 : Int) (r6 : Int) (r7 : Int) (r8 : Int) (r9 : Int) (au : List Int) (av : List Int) (aw : Int) (w : World) (hr0_9 : Kd.C (Kd.int .u8) w A0_9 ab.length ab) (hc0_9 : ab.length ≤ a7) (hr0_10 : Kd.C (Kd.int .u8) w A0_10 aa.length aa) (hc0_10 : aa.length ≤ ax) (h : spec_Complain.f k ad ae af ag ah ai aj ac ak ab aa a1 a2 a3 a4 = some (r1, r2, r3, r4, r5, r6, r7, r8, r9, au, av, aw)) :
 Calls Try.prog 21 #[.agg #[.int .i64 ad, .int .i64 ae, .bool af, .bool ag, .int .i64 ah, .int .i64 ai, .int .i64 aj, .int .i64 ac, .int .i64 ak, .slice A0_9 ab.length a7, .slice A0_10 aa.length ax], .int .i64 a1, .int .i64 a2, .int .i64 a3, .int .i64 a4] w fun e w' => ∃ v9_ v10_ : Value, e = .returned (.tuple #[.agg #[.int .i64 r1, .int .i64 r2, .bool r3, .bool r4, .int .i64 r5, .int .i64 r6, .int .i64 r7, .int .i64 r8, .int .i64 r9, v9_, v10_], .int .i64 aw]) ∧ Kd.R (Kd.int .u8) 5 w' w.heap.size (fun k_ => some k_ ≠ (v10_ : Value).ownBlock) v9_ au ∧ Kd.R (Kd.int .u8) 5 w' w.heap.size (fun k_ => some k_ ≠ (v9_ : Value).ownBlock) v10_ av ∧ Below w.heap.size w w' := by
 have hu25 := Try.underlying25
 have hu52 := Try.underlying52
 have HR0_9 := Aside0.mk hr0_9
 have bv := Aside0.mk hc0_9
 clear hr0_9 hc0_9
 have HR0_10 := Aside0.mk hr0_10
 have bg := Aside0.mk hc0_10
 clear hr0_10 hc0_10
 have HB := Aside0.mk (Below.refl w.heap.size w)
 have H : ((spec_MayComplain.f k ad ae af ag ah ai aj ac ak ab aa).bind fun cL => (if cL = true then ((spec_l02AddrOK.f a1).bind fun bB => (if bB = true then (if a2 = 3 then ((spec_l01In.f a3 0 255).bind fun be => (if be = true then ((spec_l01In.f a4 0 4294967295).bind fun a5 => (spec_Complain.j0 k a1 a2 a3 a4 (!a5) ad ae af ag ah ai aj ac ak ab aa)) else (spec_Complain.j0 k a1 a2 a3 a4 true ad ae af ag ah ai aj ac ak ab aa))) else (if a2 = 11 then ((spec_l01In.f a3 0 255).bind fun bf => (if bf = true then ((spec_l01In.f a4 0 4294967295).bind fun a6 => (spec_Complain.j0 k a1 a2 a3 a4 (!a6) ad ae af ag ah ai aj ac ak ab aa)) else (spec_Complain.j0 k a1 a2 a3 a4 true ad ae af ag ah ai aj ac ak ab aa))) else (spec_Complain.j0 k a1 a2 a3 a4 true ad ae af ag ah ai aj ac ak ab aa))) else (spec_Complain.j0 k a1 a2 a3 a4 true ad ae af ag ah ai aj ac ak ab aa))) else (spec_Complain.j0 k a1 a2 a3 a4 true ad ae af ag ah ai aj ac ak ab aa))) = some (r1, r2, r3, r4, r5, r6, r7, r8, r9, au, av, aw) := h
 clear h
 have cQ := Aside0.mk H
 clear H
 go_enter Try.func21, Try.ntmps21
 go_upto_region 1 with (first | ((with_reducible refine gate_dst (N := 5) rfl ?_); refine boxE 5 #[.int .i64 ad, .int .i64 ae, .bool af, .bool ag, .int .i64 ah, .int .i64 ai, .int .i64 aj, .int .i64 ac, .int .i64 ak, .slice A0_9 ab.length a7, .slice A0_10 aa.length ax] 25 ?_; intro bw hg da hbox hb; have al := Aside0.mk (hbox); have cS := Aside0.mk ((by rw [hg]; exact (below_size wB) : w.heap.size ≤ bw)); replace HB := Aside0.mk (below_step wB hb); have db := cS; clear hb hbox hg) | ((with_reducible refine gate_dst (N := 10) rfl ?_); refine boxE 10 #[.int .i64 0, .int .i64 0, .bool false, .bool false, .int .i64 0, .int .i64 0, .int .i64 0, .int .i64 0, .int .i64 0, .slice none 0 0, .slice none 0 0] 25 ?_; intro am hg dc hbox hb; have an := Aside0.mk (hbox); have cT := Aside0.mk ((by rw [hg]; exact (below_size wB) : w.heap.size ≤ am)); replace HB := Aside0.mk (below_step wB hb); have dd := cT; have aq := Aside0.mk ((by rw [hg]; exact Nat.ne_of_lt (blk_lt (Bh al)) : bw ≠ am)); replace al := Aside0.mk (blk_below (Bh al) hb); have aD := Aside0.mk aq.out.symm; clear hb hbox hg))
 (try simp only [Act.put, List.setIfInBounds_toArray, List.set_cons_zero, List.set_cons_succ])
 go_cut [42] (fun c1 wc => ∃ (kq : Nat) (bz : Bool), c1 = .bool bz ∧ Aside0 (spec_Complain.j0 kq a1 a2 a3 a4 bz ad ae af ag ah ai aj ac ak ab aa = some (r1, r2, r3, r4, r5, r6, r7, r8, r9, au, av, aw)) ∧ Aside0 (kq ≤ k) ∧ Aside0 (wc.heap[bw]? = some (.cells #[.int .i64 ad, .int .i64 ae, .bool af, .bool ag, .int .i64 ah, .int .i64 ai, .int .i64 aj, .int .i64 ac, .int .i64 ak, (.slice A0_9 ab.length a7), (.slice A0_10 aa.length ax)] 25 (0, 0))) ∧ Aside0 (wc.heap[am]? = some (.cells #[.int .i64 0, .int .i64 0, .bool false, .bool false, .int .i64 0, .int .i64 0, .int .i64 0, .int .i64 0, .int .i64 0, (.slice none 0 0), (.slice none 0 0)] 25 (0, 0))) ∧ Aside0 (Below w.heap.size w wc))
 case first => (
 have H := cQ.out
 clear cQ
 replace H := Option.bind_eq_some_iff.mp H
 obtain ⟨cL, A10030, H⟩ := H
 have A1003 := Aside0.mk A10030
 clear A10030
 by_cases bh : cL = true
 subst bh
 have H1 : ((spec_l02AddrOK.f a1).bind fun bB => (if bB = true then (if a2 = 3 then ((spec_l01In.f a3 0 255).bind fun be => (if be = true then ((spec_l01In.f a4 0 4294967295).bind fun a5 => (spec_Complain.j0 k a1 a2 a3 a4 (!a5) ad ae af ag ah ai aj ac ak ab aa)) else (spec_Complain.j0 k a1 a2 a3 a4 true ad ae af ag ah ai aj ac ak ab aa))) else (if a2 = 11 then ((spec_l01In.f a3 0 255).bind fun bf => (if bf = true then ((spec_l01In.f a4 0 4294967295).bind fun a6 => (spec_Complain.j0 k a1 a2 a3 a4 (!a6) ad ae af ag ah ai aj ac ak ab aa)) else (spec_Complain.j0 k a1 a2 a3 a4 true ad ae af ag ah ai aj ac ak ab aa))) else (spec_Complain.j0 k a1 a2 a3 a4 true ad ae af ag ah ai aj ac ak ab aa))) else (spec_Complain.j0 k a1 a2 a3 a4 true ad ae af ag ah ai aj ac ak ab aa))) = some (r1, r2, r3, r4, r5, r6, r7, r8, r9, au, av, aw) := by rw [if_pos rfl] at H; exact H
 clear H
 have H := H1
 clear H1
 replace H := Option.bind_eq_some_iff.mp H
 obtain ⟨bB, A10050, H⟩ := H
 have A1005 := Aside0.mk A10050
 clear A10050
 by_cases bi : bB = true
 subst bi
 have H1 : (if a2 = 3 then ((spec_l01In.f a3 0 255).bind fun be => (if be = true then ((spec_l01In.f a4 0 4294967295).bind fun a5 => (spec_Complain.j0 k a1 a2 a3 a4 (!a5) ad ae af ag ah ai aj ac ak ab aa)) else (spec_Complain.j0 k a1 a2 a3 a4 true ad ae af ag ah ai aj ac ak ab aa))) else (if a2 = 11 then ((spec_l01In.f a3 0 255).bind fun bf => (if bf = true then ((spec_l01In.f a4 0 4294967295).bind fun a6 => (spec_Complain.j0 k a1 a2 a3 a4 (!a6) ad ae af ag ah ai aj ac ak ab aa)) else (spec_Complain.j0 k a1 a2 a3 a4 true ad ae af ag ah ai aj ac ak ab aa))) else (spec_Complain.j0 k a1 a2 a3 a4 true ad ae af ag ah ai aj ac ak ab aa))) = some (r1, r2, r3, r4, r5, r6, r7, r8, r9, au, av, aw) := by rw [if_pos rfl] at H; exact H
 clear H
 have H := H1
 clear H1
 by_cases aE : a2 = 3
 rw [if_pos aE] at H
 have c1007b0 : (a2 == 3) = true := beq_iff_eq.mpr aE
 have c1007b1 : (a2 != 3) = false := bne_eq_false_iff_eq.mpr aE
 clear aE
 (first | rw [c1007b0] | (simp only [i64_w, i32_w]; rw [c1007b0]) | skip)
 replace H := Option.bind_eq_some_iff.mp H
 obtain ⟨be, A10080, H⟩ := H
 have A1008 := Aside0.mk A10080
 clear A10080
 by_cases bj : be = true
 subst bj
 have H1 : ((spec_l01In.f a4 0 4294967295).bind fun a5 => (spec_Complain.j0 k a1 a2 a3 a4 (!a5) ad ae af ag ah ai aj ac ak ab aa)) = some (r1, r2, r3, r4, r5, r6, r7, r8, r9, au, av, aw) := by rw [if_pos rfl] at H; exact H
 clear H
 have H := H1
 clear H1
 replace H := Option.bind_eq_some_iff.mp H
 obtain ⟨a5, A10100, H⟩ := H
 have A1010 := Aside0.mk A10100
 clear A10100
 have H' := Aside0.mk H
 clear H
 rotate_left
 replace bj := Bool.eq_false_iff.mpr bj
 subst bj
 have H1 : (spec_Complain.j0 k a1 a2 a3 a4 true ad ae af ag ah ai aj ac ak ab aa) = some (r1, r2, r3, r4, r5, r6, r7, r8, r9, au, av, aw) := by rw [if_neg (show ¬ (false = true) by decide)] at H; exact H
 clear H
 have H := H1
 clear H1
 have H' := Aside0.mk H
 clear H
 rotate_left
 rw [if_neg aE] at H
 have c1007b0 : (a2 == 3) = false := beq_eq_false_iff_ne.mpr aE
 have c1007b1 : (a2 != 3) = true := bne_iff_ne.mpr aE
 (first | rw [c1007b0] | (simp only [i64_w, i32_w]; rw [c1007b0]) | skip)
 by_cases aF : a2 = 11
 rw [if_pos aF] at H
 have c1011b0 : (a2 == 11) = true := beq_iff_eq.mpr aF
 have c1011b1 : (a2 != 11) = false := bne_eq_false_iff_eq.mpr aF
 clear aF
 replace H := Option.bind_eq_some_iff.mp H
 obtain ⟨bf, A10120, H⟩ := H
 have A1012 := Aside0.mk A10120
 clear A10120
 by_cases bk : bf = true
 subst bk
 have H1 : ((spec_l01In.f a4 0 4294967295).bind fun a6 => (spec_Complain.j0 k a1 a2 a3 a4 (!a6) ad ae af ag ah ai aj ac ak ab aa)) = some (r1, r2, r3, r4, r5, r6, r7, r8, r9, au, av, aw) := by rw [if_pos rfl] at H; exact H
 clear H
 have H := H1
 clear H1
 replace H := Option.bind_eq_some_iff.mp H
 obtain ⟨a6, A10140, H⟩ := H
 have A1014 := Aside0.mk A10140
 clear A10140
 have H' := Aside0.mk H
 clear H
 rotate_left
 replace bk := Bool.eq_false_iff.mpr bk
 subst bk
 have H1 : (spec_Complain.j0 k a1 a2 a3 a4 true ad ae af ag ah ai aj ac ak ab aa) = some (r1, r2, r3, r4, r5, r6, r7, r8, r9, au, av, aw) := by rw [if_neg (show ¬ (false = true) by decide)] at H; exact H
 clear H
 have H := H1
 clear H1
 have H' := Aside0.mk H
 clear H
 rotate_left
 rw [if_neg aF] at H
 have c1011b0 : (a2 == 11) = false := beq_eq_false_iff_ne.mpr aF
 have c1011b1 : (a2 != 11) = true := bne_iff_ne.mpr aF
 have H' := Aside0.mk H
 clear H
 rotate_left
 replace bi := Bool.eq_false_iff.mpr bi
 subst bi
 have H1 : (spec_Complain.j0 k a1 a2 a3 a4 true ad ae af ag ah ai aj ac ak ab aa) = some (r1, r2, r3, r4, r5, r6, r7, r8, r9, au, av, aw) := by rw [if_neg (show ¬ (false = true) by decide)] at H; exact H
 clear H
 have H := H1
 clear H1
 have H' := Aside0.mk H
 clear H
 rotate_left
 replace bh := Bool.eq_false_iff.mpr bh
 subst bh
 have H1 : (spec_Complain.j0 k a1 a2 a3 a4 true ad ae af ag ah ai aj ac ak ab aa) = some (r1, r2, r3, r4, r5, r6, r7, r8, r9, au, av, aw) := by rw [if_neg (show ¬ (false = true) by decide)] at H; exact H
 clear H
 have H := H1
 clear H1
 have H' := Aside0.mk H
 clear H
 rotate_left
 all_goals (
 have bs := aq.out
 have bu := aD.out
 obtain ⟨⟨aG, aH, aI, aJ, aK, aL, aM, aN, aO, aP, ay⟩, aQ, aR, aS, aT, aU, aV, aW, aX, aY, aZ, az⟩ := cells11 al.out
 )
 iterate 2 (
 focus (
 go_wp2_with (first | ((with_reducible refine gate_callee (f := 23) rfl ?_); refine gL (some 18) Try.func23 #[.agg #[.int .i64 ad, .int .i64 ae, .bool af, .bool ag, .int .i64 ah, .int .i64 ai, .int .i64 aj, .int .i64 ac, .int .i64 ak, .slice A0_9 ab.length a7, .slice A0_10 aa.length ax]] ?_; (with_reducible refine (spec_MayComplain.calls k ad ae af ag ah ai aj ac ak _ _ ab _ _ aa true _ ?side1 ?side2 ?side3 ?side4 A1003.out).mono ?_); (case side1 => exact Kd.C_below HR0_9.out wB); (case side2 => exact bv.out); (case side3 => exact Kd.C_below HR0_10.out wB); (case side4 => exact bg.out); rintro e a8 ⟨rfl, hb⟩; refine ⟨_, rfl, ?_⟩; replace al := Aside0.mk (blk_below (Bh al) hb); replace an := Aside0.mk (blk_below (Bh an) hb); replace HB := Aside0.mk (below_step wB hb); clear hb) | (go_at_call 48; (with_reducible refine (spec_l02AddrOK.calls a1 true _ A1005.out).mono ?_); rintro e w' ⟨rfl, ⟨nd, rfl⟩⟩) | (go_at_call 60; (with_reducible refine (spec_l01In.calls a3 0 255 _ _ A1008.out).mono ?_); rintro e w' ⟨rfl, ⟨nd, rfl⟩⟩) | (go_at_call 60; (with_reducible refine (spec_l01In.calls a4 0 4294967295 a5 _ A1010.out).mono ?_); rintro e w' ⟨rfl, ⟨nd, rfl⟩⟩))
 all_goals (try (rename_i h_; exfalso; cases h_; done))
 all_goals (try (rename_i h_ h2_; exfalso; cases h_; done))
 go_meet
 )
 rotate_left
 )
 rotate_right 2
 {
 case rel => exact ⟨_, (!a5), eS, H', ⟨by first | omega | exact Nat.le_refl _⟩, ⟨Bh al⟩, ⟨Bh an⟩, ⟨wB⟩⟩
 }
 {
 case rel => exact ⟨_, (true), eS, H', ⟨by first | omega | exact Nat.le_refl _⟩, ⟨Bh al⟩, ⟨Bh an⟩, ⟨wB⟩⟩
 }
 all_goals (
 go_wp2_with (first | ((with_reducible refine gate_callee (f := 23) rfl ?_); refine gL (some 18) Try.func23 #[.agg #[.int .i64 ad, .int .i64 ae, .bool af, .bool ag, .int .i64 ah, .int .i64 ai, .int .i64 aj, .int .i64 ac, .int .i64 ak, .slice A0_9 ab.length a7, .slice A0_10 aa.length ax]] ?_; (with_reducible refine (spec_MayComplain.calls k ad ae af ag ah ai aj ac ak _ _ ab _ _ aa _ _ ?side1 ?side2 ?side3 ?side4 A1003.out).mono ?_); (case side1 => exact Kd.C_below HR0_9.out wB); (case side2 => exact bv.out); (case side3 => exact Kd.C_below HR0_10.out wB); (case side4 => exact bg.out); rintro e a8 ⟨rfl, hb⟩; refine ⟨_, rfl, ?_⟩; replace al := Aside0.mk (blk_below (Bh al) hb); replace an := Aside0.mk (blk_below (Bh an) hb); replace HB := Aside0.mk (below_step wB hb); clear hb) | (go_at_call 48; (with_reducible refine (spec_l02AddrOK.calls a1 _ _ A1005.out).mono ?_); rintro e w' ⟨rfl, ⟨nd, rfl⟩⟩) | (go_at_call 60; (with_reducible refine (spec_l01In.calls a3 0 255 _ _ A1012.out).mono ?_); rintro e w' ⟨rfl, ⟨nd, rfl⟩⟩) | (go_at_call 60; (with_reducible refine (spec_l01In.calls a4 0 4294967295 a6 _ A1014.out).mono ?_); rintro e w' ⟨rfl, ⟨nd, rfl⟩⟩))
 all_goals (try (rename_i h_; exfalso; cases h_; done))
 all_goals (try (rename_i h_ h2_; exfalso; cases h_; done))
 go_meet
 )
 {
 case rel => exact ⟨_, (!a6), eS, H', ⟨by first | omega | exact Nat.le_refl _⟩, ⟨Bh al⟩, ⟨Bh an⟩, ⟨wB⟩⟩
 }
 all_goals (
 case rel => exact ⟨_, (true), eS, H', ⟨by first | omega | exact Nat.le_refl _⟩, ⟨Bh al⟩, ⟨Bh an⟩, ⟨wB⟩⟩
 )
 )
 case rest => (
 clear cQ
 try clear c0
 try clear bh
 try clear bi
 try clear aE
 try clear c1007b0
 try clear c1007b1
 try clear bj
 try clear aF
 try clear c1011b0
 try clear c1011b1
 try clear bk
 try clear aG aH ay aI aJ aK aL aM aN aO aP aQ aR az aS aT aU aV aW aX aY aZ
 obtain ⟨kq, bz, rfl, HA, HJ5, al, an, HB⟩ := hcut
 cases kq with
 | zero => exact absurd HA.out (by simp [spec_Complain.j0])
 | succ bd => {
 have H := HA.out
 clear HA
 simp only [spec_Complain.j0] at H
 by_cases bA : bz = true
 {
 subst bA
 have H1 : (some (0, 0, false, false, 0, 0, 0, 0, 0, ([] : List Int), ([] : List Int), 1)) = some (r1, r2, r3, r4, r5, r6, r7, r8, r9, au, av, aw) := by rw [if_pos rfl] at H; exact H
 clear H
 have H := H1
 clear H1
 simp only [Option.some.injEq, Prod.mk.injEq] at H
 obtain ⟨rfl, rfl, rfl, rfl, rfl, rfl, rfl, rfl, rfl, rfl, rfl, rfl⟩ := H
 have bs := aD.out
 have bu := aq.out
 obtain ⟨⟨aG, aH, aI, aJ, aK, aL, aM, aN, aO, aP, ay⟩, aQ, aR, aS, aT, aU, aV, aW, aX, aY, aZ, az⟩ := cells11 an.out
 go_wp2_with (first | ((with_reducible refine gate_store (t := 25) (p := 10) rfl ?_); refine storeE (put11 wc am (.int .i64 0) (.int .i64 0) (.bool false) (.bool false) (.int .i64 0) (.int .i64 0) (.int .i64 0) (.int .i64 0) (.int .i64 0) (.slice none 0 0) (.slice none 0 0)) ?_; intro a8 hw; have n0_ : Aside0 (a8.heap[bw]? = some (.cells #[.int .i64 ad, .int .i64 ae, .bool af, .bool ag, .int .i64 ah, .int .i64 ai, .int .i64 aj, .int .i64 ac, .int .i64 ak, .slice A0_9 ab.length a7, .slice A0_10 aa.length ax] 25 (0, 0))) := ⟨(by rw [hw]; exact (by refine (far11 aq.out).trans ?_; exact al.out))⟩; have n1_ : Aside0 (a8.heap[am]? = some (.cells #[.int .i64 0, .int .i64 0, .bool false, .bool false, .int .i64 0, .int .i64 0, .int .i64 0, .int .i64 0, .int .i64 0, .slice none 0 0, .slice none 0 0] 25 (0, 0))) := ⟨(by rw [hw]; exact (by apply set11; exact an.out))⟩; have n2_ : Aside0 (Below w.heap.size w a8) := ⟨(by rw [hw]; exact wB)⟩; clear hw; clear al; clear an; clear HB; have al := n0_; have an := n1_; have HB := n2_; clear n0_ n1_ n2_))
 all_goals (try (rename_i h_; exfalso; cases h_; done))
 all_goals (try (rename_i h_ h2_; exfalso; cases h_; done))
 refine bodyPost_ret (results_ct rfl _ _ am 25 #[.int .i64 0, .int .i64 0, .bool false, .bool false, .int .i64 0, .int .i64 0, .int .i64 0, .int .i64 0, .int .i64 0, .slice none 0 0, .slice none 0 0] (0, 0) _ rfl (Bh an) Try.underlying25 rfl (by kernel_rfl)) rfl ?_
 exact ⟨_, _, eR, by first | exact Kd.R_nil _ _ _ _ _ | exact Kd.N_nil _ _ _ _ _ | exact Kd.V_nil _ _ _ _ _ | exact Kd.Q_nil _ _ _ _ _ | exact Kd.S_nil _ _ _ _ _, by first | exact Kd.R_nil _ _ _ _ _ | exact Kd.N_nil _ _ _ _ _ | exact Kd.V_nil _ _ _ _ _ | exact Kd.Q_nil _ _ _ _ _ | exact Kd.S_nil _ _ _ _ _, wB⟩
 }
 {
 replace bA := Bool.eq_false_iff.mpr bA
 subst bA
 have H1 : ((spec_EncodeIP.f bd ad ae af ag ah ai aj ac ak ab aa).bind fun a0 => (if (wrap64 (28 + (ab.length : Int))) > (a0.1.length : Int) then (if 0 ≤ (a0.1.length : Int) then (if (a0.1.length : Int) ≤ (a0.1.length : Int) then ((spec_EncodeIcmp.f bd a2 a3 a4 (a0.1.take ((a0.1.length : Int) : Int).toNat)).bind fun bG => (some (0, 0, false, false, 0, 64, 1, a1, ac, ([] : List Int), bG.1, 0))) else (none)) else (none)) else (if 0 ≤ (wrap64 (28 + (ab.length : Int))) then (if (wrap64 (28 + (ab.length : Int))) ≤ (a0.1.length : Int) then ((spec_EncodeIcmp.f bd a2 a3 a4 (a0.1.take ((wrap64 (28 + (ab.length : Int))) : Int).toNat)).bind fun bl => (some (0, 0, false, false, 0, 64, 1, a1, ac, ([] : List Int), bl.1, 0))) else (none)) else (none)))) = some (r1, r2, r3, r4, r5, r6, r7, r8, r9, au, av, aw) := by rw [if_neg (show ¬ (false = true) by decide)] at H; exact H
 clear H
 have H := H1
 clear H1
 replace H := Option.bind_eq_some_iff.mp H
 obtain ⟨⟨ao, cR⟩, A10160, H⟩ := H
 try dsimp only at H
 have A1016 := Aside0.mk A10160
 clear A10160
 by_cases bc : (wrap64 (28 + (ab.length : Int))) > (ao.length : Int)
 {
 rw [if_pos bc] at H
 have c1017b0 : decide ((ao.length : Int) < (wrap64 (28 + (ab.length : Int)))) = true := decide_eq_true bc
 clear bc
 by_cases bm : 0 ≤ (ao.length : Int)
 {
 rw [if_pos bm] at H
 have c1018b0 := eq_true bm
 have c1018b1 : decide (0 ≤ (ao.length : Int)) = true := decide_eq_true bm
 clear bm
 by_cases bn : (ao.length : Int) ≤ (ao.length : Int)
 {
 rw [if_pos bn] at H
 have c1019b0 := eq_true bn
 have c1019b1 : decide ((ao.length : Int) ≤ (ao.length : Int)) = true := decide_eq_true bn
 clear bn
 obtain ⟨bC, bo⟩ : ∃ y_ : List Int, y_ = (ao.take ((ao.length : Int) : Int).toNat) := ⟨_, rfl⟩
 replace H : ((spec_EncodeIcmp.f bd a2 a3 a4 bC).bind fun bG => (some (0, 0, false, false, 0, 64, 1, a1, ac, ([] : List Int), bG.1, 0))) = some (r1, r2, r3, r4, r5, r6, r7, r8, r9, au, av, aw) := by first | (rw [bo]; with_reducible exact H) | (have H2_ := (Option.bind_some _ _).symm.trans H; rw [bo]; with_reducible exact H2_) | (have H2_ := (Option.bind_some _ _).symm.trans H; with_reducible exact H2_) | with_reducible exact H | (rw [bo]; exact H) | exact H
 have Ny369 := Aside0.mk bo
 clear bo
 replace H := Option.bind_eq_some_iff.mp H
 obtain ⟨⟨cM, cX⟩, A10200, H⟩ := H
 try dsimp only at H
 have A1020 := Aside0.mk A10200
 clear A10200
 simp only [Option.some.injEq, Prod.mk.injEq] at H
 obtain ⟨rfl, rfl, rfl, rfl, rfl, rfl, rfl, rfl, rfl, rfl, rfl, rfl⟩ := H
 have bs := aq.out
 have bu := aD.out
 obtain ⟨⟨aG, aH, aI, aJ, aK, aL, aM, aN, aO, aP, ay⟩, aQ, aR, aS, aT, aU, aV, aW, aX, aY, aZ, az⟩ := cells11 al.out
 go_wp2_with (first | ((with_reducible refine gate_callee (f := 28) rfl ?_); refine gL (some 46) Try.func28 #[.agg #[.int .i64 ad, .int .i64 ae, .bool af, .bool ag, .int .i64 ah, .int .i64 ai, .int .i64 aj, .int .i64 ac, .int .i64 ak, .slice A0_9 ab.length a7, .slice A0_10 aa.length ax]] ?_; (with_reducible refine (spec_EncodeIP.calls bd ad ae af ag ah ai aj ac ak _ _ ab _ _ aa ao cR _ ?side1 ?side2 ?side3 ?side4 A1016.out).mono ?_); (case side1 => exact Kd.C_below HR0_9.out wB); (case side2 => exact bv.out); (case side3 => exact Kd.C_below HR0_10.out wB); (case side4 => exact bg.out); rintro e a8 ⟨cY, rfl, a9, hb⟩; refine ⟨_, rfl, ?_⟩; have aA := Aside0.mk (Kd.R_lower a9 (below_size wB)); replace al := Aside0.mk (blk_below (Bh al) hb); replace an := Aside0.mk (blk_below (Bh an) hb); replace HB := Aside0.mk (below_step wB hb); clear hb; (try clear a9); obtain ⟨⟨bN, bO, bP, bQ, bR, bS, bT, bU, bV, bW, bH⟩, bX, bY, bZ, b0, b1, b2, b3, b4, b5, b6, bI⟩ := cells11 al.out; obtain ⟨aB, ar, bD⟩ := Kd.R_slice aA.out; subst bD; have q2006 : ((ao.length : Int) : Int) ≤ ((ao.length : Int) : Int) := dT; obtain ⟨i02006, hi02006, _, hsz2006, _⟩ := info_parts info5; have hroom2006 : ao.length ≤ ar := (Kd.R_reads' aA.out).2.1; have hC2006 : Kd.C (Kd.int .u8) _ aB ao.length ao := (Kd.R_reads' aA.out).2.2; have hcut2006 := cut_to (P := Try.prog) 22 5 .i64 Try.underlying22 hi02006 aB ao.length ar (ao.length : Int) dT q2006 hroom2006; have hr2006 := Kd.C_take (m := ((ao.length : Int) : Int).toNat) hC2006 (by omega); have aC : bC.length = ((ao.length : Int) : Int).toNat := (by rw [Ny369.out, List.length_take]; omega); rw [← Ny369.out] at hr2006; rw [← aC] at hcut2006; have HR372 := Aside0.mk hr2006; have cU := Aside0.mk (show bC.length ≤ ar from by omega); clear hr2006 hC2006 hroom2006 hi02006 hsz2006; have KY2006 := Aside0.mk aC; clear aC; have KL2006 := Aside0.mk (show ((ao.length : Int) : Int).toNat ≤ ao.length from by omega); replace q2006 := eq_true q2006; (try clear aA)) | ((with_reducible refine gate_callee (f := 61) rfl ?_); refine gL (some 67) Try.func61 #[.agg #[.int .i64 a2, .int .i64 a3, .int .i64 a4, .slice aB bC.length ar]] ?_; (with_reducible refine (spec_EncodeIcmp.calls bd a2 a3 a4 _ _ bC cM cX _ ?side1 ?side2 A1020.out).mono ?_); (case side1 => repeat (first | exact (by repeat (first | (with_reducible exact HR372.out) | (with_reducible refine Kd.C_alloc ?_ _) | (with_reducible refine Kd.C_drewN ?_ _) | (with_reducible refine Kd.C_drew ?_) | exact HR372.out)) | (with_reducible refine Kd.C_alloc ?_ _) | (with_reducible refine Kd.C_drewN ?_ _) | (with_reducible refine Kd.C_drew ?_))); (case side2 => exact cU.out); rintro e cV ⟨de, rfl, a9, hb⟩; refine ⟨_, rfl, ?_⟩; have cO := Aside0.mk (Kd.R_lower a9 (below_size wB)); replace al := Aside0.mk (blk_below (Bh al) hb); replace an := Aside0.mk (blk_below (Bh an) hb); replace HR372 := Aside0.mk (Kd.C_below (by repeat (first | (with_reducible exact HR372.out) | (with_reducible refine Kd.C_alloc ?_ _) | (with_reducible refine Kd.C_drewN ?_ _) | (with_reducible refine Kd.C_drew ?_) | exact HR372.out)) hb); replace HB := Aside0.mk (below_step wB hb); clear hb; (try clear a9); obtain ⟨⟨b7, b8, b9, ca, cb, cc, cd, ce, cf, cg, bJ⟩, ch, ci, cj, ck, cl, cm, cn, co, cp, cq, bK⟩ := cells11 al.out; obtain ⟨ba, bb, bE⟩ := Kd.R_slice cO.out; subst bE; obtain ⟨⟨cr, cs, ct, cu, cv, cw, cx, cy, cz, cA, bL⟩, cB, cC, cD, cE, cF, cG, cH, cI, cJ, cK, bM⟩ := cells11 an.out))
 all_goals (try (rename_i h_; exfalso; cases h_; done))
 all_goals (try (rename_i h_ h2_; exfalso; cases h_; done))
 refine bodyPost_ret (results_ct rfl _ _ am 25 #[.int .i64 0, .int .i64 0, .bool false, .bool false, .int .i64 0, .int .i64 64, .int .i64 1, .int .i64 a1, .int .i64 ac, .slice none 0 0, .slice ba cM.length bb] (0, 0) _ rfl (by (with_reducible repeat (first | refine blk_drewN ?_ _ | refine blk_drew ?_ | refine blk_alloc ?_ _)); apply set11; (with_reducible repeat (first | refine blk_drewN ?_ _ | refine blk_drew ?_ | refine blk_alloc ?_ _)); exact an.out) Try.underlying25 rfl (by kernel_rfl)) rfl ?_
 exact ⟨_, _, eR, by first | exact Kd.R_nil _ _ _ _ _ | exact Kd.N_nil _ _ _ _ _ | exact Kd.V_nil _ _ _ _ _ | exact Kd.Q_nil _ _ _ _ _ | exact Kd.S_nil _ _ _ _ _, by (with_reducible repeat (first | apply Kd.R_alloc | apply Kd.R_drewN | apply Kd.R_drew)); exact Kd.R_mono (Kd.R_far (p := ⟨am, 10, none⟩) (Kd.R_far (p := ⟨am, 9, none⟩) (Kd.R_far (p := ⟨am, 8, none⟩) (Kd.R_far (p := ⟨am, 7, none⟩) (Kd.R_far (p := ⟨am, 6, none⟩) (Kd.R_far (p := ⟨am, 5, none⟩) (Kd.R_far (p := ⟨am, 4, none⟩) (Kd.R_far (p := ⟨am, 3, none⟩) (Kd.R_far (p := ⟨am, 2, none⟩) (Kd.R_far (p := ⟨am, 1, none⟩) (Kd.R_far (p := ⟨am, 0, none⟩) (Kd.R_types cO.out an.out (by decide)) (fun _ hk => hk.2) (.int .i64 0)) (fun _ hk => hk.2) (.int .i64 0)) (fun _ hk => hk.2) (.bool false)) (fun _ hk => hk.2) (.bool false)) (fun _ hk => hk.2) (.int .i64 0)) (fun _ hk => hk.2) (.int .i64 64)) (fun _ hk => hk.2) (.int .i64 1)) (fun _ hk => hk.2) (.int .i64 a1)) (fun _ hk => hk.2) (.int .i64 ac)) (fun _ hk => hk.2) (.slice none 0 0)) (fun _ hk => hk.2) (.slice ba cM.length bb)) (fun _ hk => (by simp [Value.ownBlock])), wB⟩
 }
 {
 rw [if_neg bn] at H
 exact absurd H (by simp)
 }
 }
 {
 rw [if_neg bm] at H
 exact absurd H (by simp)
 }
 }
 {
 rw [if_neg bc] at H
 have c1017b0 : decide ((ao.length : Int) < (wrap64 (28 + (ab.length : Int)))) = false := decide_eq_false bc
 clear bc
 obtain ⟨ap, hji1021⟩ : ∃ j_ : Int, (wrap64 (28 + (ab.length : Int))) = j_ := ⟨_, rfl⟩
 replace H : (if 0 ≤ (ap) then (if (ap) ≤ (ao.length : Int) then ((spec_EncodeIcmp.f bd a2 a3 a4 (ao.take ((ap) : Int).toNat)).bind fun bl => (some (0, 0, false, false, 0, 64, 1, a1, ac, ([] : List Int), bl.1, 0))) else (none)) else (none)) = some (r1, r2, r3, r4, r5, r6, r7, r8, r9, au, av, aw) := by first | (rw [hji1021] at H; exact H) | (simp only [hji1021] at H ⊢; exact H)
 (try rw [hji1021] at c1017b0)
 (try rw [hji1021] at A1016)
 have hji1021w : (IntKind.i64.wrap (28 + (ab.length : Int))) = ap := (i64_w _).trans hji1021
 by_cases bp : 0 ≤ (ap)
 {
 rw [if_pos bp] at H
 have c1022b0 := eq_true bp
 have c1022b1 : decide (0 ≤ (ap)) = true := decide_eq_true bp
 clear bp
 by_cases bq : (ap) ≤ (ao.length : Int)
 {
 rw [if_pos bq] at H
 have c1023b0 := eq_true bq
 have c1023b1 : decide ((ap) ≤ (ao.length : Int)) = true := decide_eq_true bq
 clear bq
 obtain ⟨bF, br⟩ : ∃ y_ : List Int, y_ = (ao.take ((ap) : Int).toNat) := ⟨_, rfl⟩
 replace H : ((spec_EncodeIcmp.f bd a2 a3 a4 bF).bind fun bl => (some (0, 0, false, false, 0, 64, 1, a1, ac, ([] : List Int), bl.1, 0))) = some (r1, r2, r3, r4, r5, r6, r7, r8, r9, au, av, aw) := by first | (rw [br]; with_reducible exact H) | (have H2_ := (Option.bind_some _ _).symm.trans H; rw [br]; with_reducible exact H2_) | (have H2_ := (Option.bind_some _ _).symm.trans H; with_reducible exact H2_) | with_reducible exact H | (rw [br]; exact H) | exact H
 have Ny377 := Aside0.mk br
 clear br
 replace H := Option.bind_eq_some_iff.mp H
 obtain ⟨⟨cN, cZ⟩, A10240, H⟩ := H
 try dsimp only at H
 have A1024 := Aside0.mk A10240
 clear A10240
 simp only [Option.some.injEq, Prod.mk.injEq] at H
 obtain ⟨rfl, rfl, rfl, rfl, rfl, rfl, rfl, rfl, rfl, rfl, rfl, rfl⟩ := H
 have bs := aq.out
 have bu := aD.out
 obtain ⟨⟨aG, aH, aI, aJ, aK, aL, aM, aN, aO, aP, ay⟩, aQ, aR, aS, aT, aU, aV, aW, aX, aY, aZ, az⟩ := cells11 al.out
 go_wp2_with (first | ((with_reducible refine gate_callee (f := 28) rfl ?_); refine gL (some 46) Try.func28 #[.agg #[.int .i64 ad, .int .i64 ae, .bool af, .bool ag, .int .i64 ah, .int .i64 ai, .int .i64 aj, .int .i64 ac, .int .i64 ak, .slice A0_9 ab.length a7, .slice A0_10 aa.length ax]] ?_; (with_reducible refine (spec_EncodeIP.calls bd ad ae af ag ah ai aj ac ak _ _ ab _ _ aa ao cR _ ?side1 ?side2 ?side3 ?side4 A1016.out).mono ?_); (case side1 => exact Kd.C_below HR0_9.out wB); (case side2 => exact bv.out); (case side3 => exact Kd.C_below HR0_10.out wB); (case side4 => exact bg.out); rintro e a8 ⟨cY, rfl, a9, hb⟩; refine ⟨_, rfl, ?_⟩; have aA := Aside0.mk (Kd.R_lower a9 (below_size wB)); replace al := Aside0.mk (blk_below (Bh al) hb); replace an := Aside0.mk (blk_below (Bh an) hb); replace HB := Aside0.mk (below_step wB hb); clear hb; (try clear a9); obtain ⟨⟨bN, bO, bP, bQ, bR, bS, bT, bU, bV, bW, bH⟩, bX, bY, bZ, b0, b1, b2, b3, b4, b5, b6, bI⟩ := cells11 al.out; obtain ⟨aB, ar, bD⟩ := Kd.R_slice aA.out; subst bD; have q2006 : ((ap) : Int) ≤ ((ao.length : Int) : Int) := dT; obtain ⟨i02006, hi02006, _, hsz2006, _⟩ := info_parts info5; have hroom2006 : ao.length ≤ ar := (Kd.R_reads' aA.out).2.1; have hC2006 : Kd.C (Kd.int .u8) _ aB ao.length ao := (Kd.R_reads' aA.out).2.2; have hcut2006 := cut_to (P := Try.prog) 22 5 .i64 Try.underlying22 hi02006 aB ao.length ar (ap) dT q2006 hroom2006; have hr2006 := Kd.C_take (m := ((ap) : Int).toNat) hC2006 (by omega); have aC : bF.length = ((ap) : Int).toNat := (by rw [Ny377.out, List.length_take]; omega); rw [← Ny377.out] at hr2006; rw [← aC] at hcut2006; have HR380 := Aside0.mk hr2006; have cW := Aside0.mk (show bF.length ≤ ar from by omega); clear hr2006 hC2006 hroom2006 hi02006 hsz2006; have KY2006 := Aside0.mk aC; clear aC; have KL2006 := Aside0.mk (show ((ap) : Int).toNat ≤ ao.length from by omega); replace q2006 := eq_true q2006; (try clear aA)) | ((with_reducible refine gate_callee (f := 61) rfl ?_); refine gL (some 67) Try.func61 #[.agg #[.int .i64 a2, .int .i64 a3, .int .i64 a4, .slice aB bF.length ar]] ?_; (with_reducible refine (spec_EncodeIcmp.calls bd a2 a3 a4 _ _ bF cN cZ _ ?side1 ?side2 A1024.out).mono ?_); (case side1 => repeat (first | exact (by repeat (first | (with_reducible exact HR380.out) | (with_reducible refine Kd.C_alloc ?_ _) | (with_reducible refine Kd.C_drewN ?_ _) | (with_reducible refine Kd.C_drew ?_) | exact HR380.out)) | (with_reducible refine Kd.C_alloc ?_ _) | (with_reducible refine Kd.C_drewN ?_ _) | (with_reducible refine Kd.C_drew ?_))); (case side2 => exact cW.out); rintro e cV ⟨df, rfl, a9, hb⟩; refine ⟨_, rfl, ?_⟩; have cP := Aside0.mk (Kd.R_lower a9 (below_size wB)); replace al := Aside0.mk (blk_below (Bh al) hb); replace an := Aside0.mk (blk_below (Bh an) hb); replace HR380 := Aside0.mk (Kd.C_below (by repeat (first | (with_reducible exact HR380.out) | (with_reducible refine Kd.C_alloc ?_ _) | (with_reducible refine Kd.C_drewN ?_ _) | (with_reducible refine Kd.C_drew ?_) | exact HR380.out)) hb); replace HB := Aside0.mk (below_step wB hb); clear hb; (try clear a9); obtain ⟨⟨b7, b8, b9, ca, cb, cc, cd, ce, cf, cg, bJ⟩, ch, ci, cj, ck, cl, cm, cn, co, cp, cq, bK⟩ := cells11 al.out; obtain ⟨ba, bb, bE⟩ := Kd.R_slice cP.out; subst bE; obtain ⟨⟨cr, cs, ct, cu, cv, cw, cx, cy, cz, cA, bL⟩, cB, cC, cD, cE, cF, cG, cH, cI, cJ, cK, bM⟩ := cells11 an.out))
 all_goals (try (rename_i h_; exfalso; cases h_; done))
 all_goals (try (rename_i h_ h2_; exfalso; cases h_; done))
 refine bodyPost_ret (results_ct rfl _ _ am 25 #[.int .i64 0, .int .i64 0, .bool false, .bool false, .int .i64 0, .int .i64 64, .int .i64 1, .int .i64 a1, .int .i64 ac, .slice none 0 0, .slice ba cN.length bb] (0, 0) _ rfl (by (with_reducible repeat (first | refine blk_drewN ?_ _ | refine blk_drew ?_ | refine blk_alloc ?_ _)); apply set11; (with_reducible repeat (first | refine blk_drewN ?_ _ | refine blk_drew ?_ | refine blk_alloc ?_ _)); exact an.out) Try.underlying25 rfl (by kernel_rfl)) rfl ?_
 exact ⟨_, _, by first | rfl | (simp [errW_none, errW_some] <;> rfl) | (simp only [← hji1021]; first | rfl | (simp [errW_none, errW_some] <;> rfl)) | (simp [*, errW_none, errW_some] <;> rfl), by first | exact Kd.R_nil _ _ _ _ _ | exact Kd.N_nil _ _ _ _ _ | exact Kd.V_nil _ _ _ _ _ | exact Kd.Q_nil _ _ _ _ _ | exact Kd.S_nil _ _ _ _ _, by (with_reducible repeat (first | apply Kd.R_alloc | apply Kd.R_drewN | apply Kd.R_drew)); exact Kd.R_mono (Kd.R_far (p := ⟨am, 10, none⟩) (Kd.R_far (p := ⟨am, 9, none⟩) (Kd.R_far (p := ⟨am, 8, none⟩) (Kd.R_far (p := ⟨am, 7, none⟩) (Kd.R_far (p := ⟨am, 6, none⟩) (Kd.R_far (p := ⟨am, 5, none⟩) (Kd.R_far (p := ⟨am, 4, none⟩) (Kd.R_far (p := ⟨am, 3, none⟩) (Kd.R_far (p := ⟨am, 2, none⟩) (Kd.R_far (p := ⟨am, 1, none⟩) (Kd.R_far (p := ⟨am, 0, none⟩) (Kd.R_types cP.out an.out (by decide)) (fun _ hk => hk.2) (.int .i64 0)) (fun _ hk => hk.2) (.int .i64 0)) (fun _ hk => hk.2) (.bool false)) (fun _ hk => hk.2) (.bool false)) (fun _ hk => hk.2) (.int .i64 0)) (fun _ hk => hk.2) (.int .i64 64)) (fun _ hk => hk.2) (.int .i64 1)) (fun _ hk => hk.2) (.int .i64 a1)) (fun _ hk => hk.2) (.int .i64 ac)) (fun _ hk => hk.2) (.slice none 0 0)) (fun _ hk => hk.2) (.slice ba cN.length bb)) (fun _ hk => (by simp [Value.ownBlock])), wB⟩
 }
 {
 rw [if_neg bq] at H
 exact absurd H (by simp)
 }
 }
 {
 rw [if_neg bp] at H
 exact absurd H (by simp)
 }
 }
 }
 }
 )

/-! ### impl_AddrKind: function 62 -/
def impl_AddrKind.f (a0 : Int) : Option (Int) := (impl_isAddr.f a0).bind fun t385 => (if t385 = true then (if a0 = 0 then (some 1) else (if (a0 / 16777216) = 127 then (some 2) else (if (a0 / 268435456) = 14 then (some 3) else (if a0 = 4294967295 then (some 4) else (if (a0 / 268435456) = 15 then (some 5) else (some 6)))))) else (some 0))
set_option maxHeartbeats 60000000 in
set_option maxRecDepth 100000 in
theorem impl_AddrKind.calls (a0 : Int) (r : Int) (w : World) (h : impl_AddrKind.f a0 = some r) :
 Calls Try.prog 62 #[.int .i64 a0] w fun e w' => e = .returned (.int .i64 r) ∧ Drawn0 w w' := by
 have H : ((impl_isAddr.f a0).bind fun aa => (if aa = true then (if a0 = 0 then (some 1) else (if (a0 / 16777216) = 127 then (some 2) else (if (a0 / 268435456) = 14 then (some 3) else (if a0 = 4294967295 then (some 4) else (if (a0 / 268435456) = 15 then (some 5) else (some 6)))))) else (some 0))) = some r := h
 clear h
 replace H := Option.bind_eq_some_iff.mp H
 obtain ⟨aa, A20, H⟩ := H
 have A2 := Aside0.mk A20
 clear A20
 by_cases c3 : aa = true
 subst c3
 have H1 : (if a0 = 0 then (some 1) else (if (a0 / 16777216) = 127 then (some 2) else (if (a0 / 268435456) = 14 then (some 3) else (if a0 = 4294967295 then (some 4) else (if (a0 / 268435456) = 15 then (some 5) else (some 6)))))) = some r := by rw [if_pos rfl] at H; exact H
 clear H
 have H := H1
 clear H1
 by_cases c4 : a0 = 0
 rw [if_pos c4] at H
 have c4b0 : (a0 == 0) = true := beq_iff_eq.mpr c4
 have c4b1 : (a0 != 0) = false := bne_eq_false_iff_eq.mpr c4
 clear c4
 obtain rfl := Option.some.inj H
 rotate_left
 rw [if_neg c4] at H
 have c4b0 : (a0 == 0) = false := beq_eq_false_iff_ne.mpr c4
 have c4b1 : (a0 != 0) = true := bne_iff_ne.mpr c4
 by_cases c5 : (a0 / 16777216) = 127
 rw [if_pos c5] at H
 have c5b0 : ((a0 / 16777216) == 127) = true := beq_iff_eq.mpr c5
 have c5b1 : ((a0 / 16777216) != 127) = false := bne_eq_false_iff_eq.mpr c5
 clear c5
 obtain rfl := Option.some.inj H
 rotate_left
 rw [if_neg c5] at H
 have c5b0 : ((a0 / 16777216) == 127) = false := beq_eq_false_iff_ne.mpr c5
 have c5b1 : ((a0 / 16777216) != 127) = true := bne_iff_ne.mpr c5
 by_cases c6 : (a0 / 268435456) = 14
 rw [if_pos c6] at H
 have c6b0 : ((a0 / 268435456) == 14) = true := beq_iff_eq.mpr c6
 have c6b1 : ((a0 / 268435456) != 14) = false := bne_eq_false_iff_eq.mpr c6
 clear c6
 obtain rfl := Option.some.inj H
 rotate_left
 rw [if_neg c6] at H
 have c6b0 : ((a0 / 268435456) == 14) = false := beq_eq_false_iff_ne.mpr c6
 have c6b1 : ((a0 / 268435456) != 14) = true := bne_iff_ne.mpr c6
 by_cases c7 : a0 = 4294967295
 rw [if_pos c7] at H
 have c7b0 : (a0 == 4294967295) = true := beq_iff_eq.mpr c7
 have c7b1 : (a0 != 4294967295) = false := bne_eq_false_iff_eq.mpr c7
 clear c7
 obtain rfl := Option.some.inj H
 rotate_left
 rw [if_neg c7] at H
 have c7b0 : (a0 == 4294967295) = false := beq_eq_false_iff_ne.mpr c7
 have c7b1 : (a0 != 4294967295) = true := bne_iff_ne.mpr c7
 by_cases c8 : (a0 / 268435456) = 15
 rw [if_pos c8] at H
 have c8b0 : ((a0 / 268435456) == 15) = true := beq_iff_eq.mpr c8
 have c8b1 : ((a0 / 268435456) != 15) = false := bne_eq_false_iff_eq.mpr c8
 clear c8
 obtain rfl := Option.some.inj H
 rotate_left
 rw [if_neg c8] at H
 have c8b0 : ((a0 / 268435456) == 15) = false := beq_eq_false_iff_ne.mpr c8
 have c8b1 : ((a0 / 268435456) != 15) = true := bne_iff_ne.mpr c8
 obtain rfl := Option.some.inj H
 rotate_left
 replace c3 := Bool.eq_false_iff.mpr c3
 subst c3
 have H1 : (some 0) = some r := by rw [if_neg (show ¬ (false = true) by decide)] at H; exact H
 clear H
 have H := H1
 clear H1
 obtain rfl := Option.some.inj H
 rotate_left
 all_goals (
 go_enter Try.func62, Try.ntmps62
 go_wp2_with (first | ((with_reducible refine gate_callee (f := 51) rfl ?_); refine gL (some 5) Try.func51 #[.int .i64 a0] ?_; (with_reducible refine (impl_isAddr.calls a0 _ _ A2.out).mono ?_); rintro e w' ⟨rfl, ⟨nd, rfl⟩⟩; refine ⟨_, rfl, ?_⟩))
 go_ret
 exact ⟨by first | rfl | (simp; done) | (simp [*]; done), by repeat (first | exact Drawn0.refl _ | apply Drawn0.step)⟩
 )

/-! ### impl_MayComplain: function 22 -/
def impl_MayComplain.f (af : Int) (ag : Int) (ah : Bool) (ai : Bool) (ab : Int) (aj : Int) (ac : Int) (ad : Int) (ae : Int) (ak : List Int) (aa : List Int) : Option (Bool) := (impl_codeIP.f af ag ah ai ab aj ac ad ae ak aa).bind fun al => (if al = 0 then (if ab = 0 then ((impl_AddrKind.f ad).bind fun am => (if am = 6 then ((impl_AddrKind.f ae).bind fun an => (if an = 6 then (if ac = 1 then (if (aa.length : Int) > 0 then (if 0 < (aa.length : Int) then (if (rd aa 0) = 8 then (some true) else (some ((rd aa 0) == 0))) else (none)) else (some false)) else (some true)) else (some false))) else (some false))) else (some false)) else (some false))
set_option maxHeartbeats 60000000 in
set_option maxRecDepth 100000 in
theorem impl_MayComplain.calls (ah : Int) (ai : Int) (aj : Bool) (ak : Bool) (ac : Int) (al : Int) (ad : Int) (ae : Int) (af : Int) (A0_9 : Option Addr) (ao : Nat) (ag : List Int) (A0_10 : Option Addr) (am : Nat) (aa : List Int) (r : Bool) (w : World) (hr0_9 : Kd.C (Kd.int .u8) w A0_9 ag.length ag) (hc0_9 : ag.length ≤ ao) (hr0_10 : Kd.C (Kd.int .u8) w A0_10 aa.length aa) (hc0_10 : aa.length ≤ am) (h : impl_MayComplain.f ah ai aj ak ac al ad ae af ag aa = some r) :
 Calls Try.prog 22 #[.agg #[.int .i64 ah, .int .i64 ai, .bool aj, .bool ak, .int .i64 ac, .int .i64 al, .int .i64 ad, .int .i64 ae, .int .i64 af, .slice A0_9 ag.length ao, .slice A0_10 aa.length am]] w fun e w' => e = .returned (.bool r) ∧ Below w.heap.size w w' := by
 have hu25 := Try.underlying25
 have HR0_9 := Aside0.mk hr0_9
 have be := Aside0.mk hc0_9
 clear hr0_9 hc0_9
 have HR0_10 := Aside0.mk hr0_10
 have aR := Aside0.mk hc0_10
 clear hr0_10 hc0_10
 have HB := Aside0.mk (Below.refl w.heap.size w)
 have H : ((impl_codeIP.f ah ai aj ak ac al ad ae af ag aa).bind fun an => (if an = 0 then (if ac = 0 then ((impl_AddrKind.f ae).bind fun ap => (if ap = 6 then ((impl_AddrKind.f af).bind fun aq => (if aq = 6 then (if ad = 1 then (if (aa.length : Int) > 0 then (if 0 < (aa.length : Int) then (if (rd aa 0) = 8 then (some true) else (some ((rd aa 0) == 0))) else (none)) else (some false)) else (some true)) else (some false))) else (some false))) else (some false)) else (some false))) = some r := h
 clear h
 replace H := Option.bind_eq_some_iff.mp H
 obtain ⟨an, A20, H⟩ := H
 have A2 := Aside0.mk A20
 clear A20
 by_cases c3 : an = 0
 rw [if_pos c3] at H
 have c3b0 : (an == 0) = true := beq_iff_eq.mpr c3
 have c3b1 : (an != 0) = false := bne_eq_false_iff_eq.mpr c3
 clear c3
 by_cases c4 : ac = 0
 rw [if_pos c4] at H
 have c4b0 : (ac == 0) = true := beq_iff_eq.mpr c4
 have c4b1 : (ac != 0) = false := bne_eq_false_iff_eq.mpr c4
 clear c4
 replace H := Option.bind_eq_some_iff.mp H
 obtain ⟨ap, A50, H⟩ := H
 have A5 := Aside0.mk A50
 clear A50
 by_cases c6 : ap = 6
 rw [if_pos c6] at H
 have c6b0 : (ap == 6) = true := beq_iff_eq.mpr c6
 have c6b1 : (ap != 6) = false := bne_eq_false_iff_eq.mpr c6
 clear c6
 replace H := Option.bind_eq_some_iff.mp H
 obtain ⟨aq, A70, H⟩ := H
 have A7 := Aside0.mk A70
 clear A70
 by_cases c8 : aq = 6
 rw [if_pos c8] at H
 have c8b0 : (aq == 6) = true := beq_iff_eq.mpr c8
 have c8b1 : (aq != 6) = false := bne_eq_false_iff_eq.mpr c8
 clear c8
 by_cases c9 : ad = 1
 rw [if_pos c9] at H
 have c9b0 : (ad == 1) = true := beq_iff_eq.mpr c9
 have c9b1 : (ad != 1) = false := bne_eq_false_iff_eq.mpr c9
 clear c9
 by_cases bg : (aa.length : Int) > 0
 rw [if_pos bg] at H
 have c10b0 : decide (0 < (aa.length : Int)) = true := decide_eq_true bg
 have c10b1 : decide (0 < aa.length) = true := decide_eq_true (by omega)
 clear bg
 by_cases bk : 0 < (aa.length : Int)
 rw [if_pos bk] at H
 have c11b0 : decide (0 < (aa.length : Int)) = true := decide_eq_true bk
 have c11b1 : decide (0 < aa.length) = true := decide_eq_true (by omega)
 clear bk
 by_cases bf : (rd aa 0) = 8
 rw [if_pos bf] at H
 have c12b0 : ((rd aa 0) == 8) = true := beq_iff_eq.mpr bf
 have c12b1 : ((rd aa 0) != 8) = false := bne_eq_false_iff_eq.mpr bf
 clear bf
 obtain rfl := Option.some.inj H
 rotate_left
 rw [if_neg bf] at H
 have c12b0 : ((rd aa 0) == 8) = false := beq_eq_false_iff_ne.mpr bf
 have c12b1 : ((rd aa 0) != 8) = true := bne_iff_ne.mpr bf
 obtain rfl := Option.some.inj H
 rotate_left
 rw [if_neg bk] at H
 exact absurd H (by simp)
 rw [if_neg bg] at H
 have c10b0 : decide (0 < (aa.length : Int)) = false := decide_eq_false bg
 have c10b1 : decide (0 < aa.length) = false := decide_eq_false (by omega)
 clear bg
 obtain rfl := Option.some.inj H
 rotate_left
 rw [if_neg c9] at H
 have c9b0 : (ad == 1) = false := beq_eq_false_iff_ne.mpr c9
 have c9b1 : (ad != 1) = true := bne_iff_ne.mpr c9
 obtain rfl := Option.some.inj H
 rotate_left
 rw [if_neg c8] at H
 have c8b0 : (aq == 6) = false := beq_eq_false_iff_ne.mpr c8
 have c8b1 : (aq != 6) = true := bne_iff_ne.mpr c8
 obtain rfl := Option.some.inj H
 rotate_left
 rw [if_neg c6] at H
 have c6b0 : (ap == 6) = false := beq_eq_false_iff_ne.mpr c6
 have c6b1 : (ap != 6) = true := bne_iff_ne.mpr c6
 obtain rfl := Option.some.inj H
 rotate_left
 rw [if_neg c4] at H
 have c4b0 : (ac == 0) = false := beq_eq_false_iff_ne.mpr c4
 have c4b1 : (ac != 0) = true := bne_iff_ne.mpr c4
 obtain rfl := Option.some.inj H
 rotate_left
 rw [if_neg c3] at H
 have c3b0 : (an == 0) = false := beq_eq_false_iff_ne.mpr c3
 have c3b1 : (an != 0) = true := bne_iff_ne.mpr c3
 obtain rfl := Option.some.inj H
 rotate_left
 all_goals (
 go_enter Try.func22, Try.ntmps22
 )
 {
 go_wp2_with (first | ((with_reducible refine gate_dst (N := 1) rfl ?_); (try (refine gate_guard (by rfl) ?_; dsimp only)); refine boxE 1 #[.int .i64 ah, .int .i64 ai, .bool aj, .bool ak, .int .i64 ac, .int .i64 al, .int .i64 ad, .int .i64 ae, .int .i64 af, .slice A0_9 ag.length ao, .slice A0_10 aa.length am] 25 ?_; intro ar hg bh hbox hb; have ab := Aside0.mk (hbox); have au := Aside0.mk ((by rw [hg]; exact (below_size wB) : w.heap.size ≤ ar)); replace HB := Aside0.mk (below_step wB hb); have bi := au; clear hb hbox hg; obtain ⟨⟨ax, ay, az, aA, aB, aC, aD, aE, aF, aG, av⟩, aH, aI, aJ, aK, aL, aM, aN, aO, aP, aQ, aw⟩ := cells11 ab.out) | ((with_reducible refine gate_callee (f := 41) rfl ?_); refine gL (some 4) Try.func41 #[.agg #[.int .i64 ah, .int .i64 ai, .bool aj, .bool ak, .int .i64 ac, .int .i64 al, .int .i64 ad, .int .i64 ae, .int .i64 af, .slice A0_9 ag.length ao, .slice A0_10 aa.length am]] ?_; (with_reducible refine (impl_codeIP.calls ah ai aj ak ac al ad ae af _ _ ag _ _ aa an _ ?side1 ?side2 ?side3 ?side4 A2.out).mono ?_); (case side1 => exact Kd.C_below HR0_9.out wB); (case side2 => exact be.out); (case side3 => exact Kd.C_below HR0_10.out wB); (case side4 => exact aR.out); rintro e bj ⟨rfl, hb⟩; refine ⟨_, rfl, ?_⟩; replace ab := Aside0.mk (blk_below (Bh ab) hb); replace HB := Aside0.mk (below_step wB hb); clear hb; obtain ⟨⟨aU, aV, aW, aX, aY, aZ, a0, a1, a2, a3, aS⟩, a4, a5, a6, a7, a8, a9, ba, bb, bc, bd, aT⟩ := cells11 ab.out) | (go_at_call 62; (with_reducible refine (impl_AddrKind.calls ae ap _ A5.out).mono ?_); rintro e w' ⟨rfl, ⟨nd, rfl⟩⟩) | (go_at_call 62; (with_reducible refine (impl_AddrKind.calls af aq _ A7.out).mono ?_); rintro e w' ⟨rfl, ⟨nd, rfl⟩⟩; have p390 : 0 ≤ (0 : Int) := (by omega); have q390 : 0 < (aa.length : Int) := dT; obtain ⟨ad390, e390, hx390_0⟩ := Kd.at_int HR0_10.out 0 p390 q390; cases e390; have qi390 : (0 < aa.length) = True := eq_true (by omega); (try rw [show ((0 : Int)).toNat = 0 from rfl] at hx390_0); (try rw [Addr.add_zero'] at hx390_0); replace hx390_0 := (HB.out.cell (World.block_lt_of_cell? w _ hx390_0)).trans hx390_0; replace p390 := eq_true p390; replace q390 := eq_true q390))
 all_goals (try (rename_i h_; exfalso; cases h_; done))
 all_goals (try (rename_i h_ h2_; exfalso; cases h_; done))
 go_ret
 exact ⟨eR, wB⟩
 }
 {
 go_wp2_with (first | ((with_reducible refine gate_dst (N := 1) rfl ?_); (try (refine gate_guard (by rfl) ?_; dsimp only)); refine boxE 1 #[.int .i64 ah, .int .i64 ai, .bool aj, .bool ak, .int .i64 ac, .int .i64 al, .int .i64 ad, .int .i64 ae, .int .i64 af, .slice A0_9 ag.length ao, .slice A0_10 aa.length am] 25 ?_; intro ar hg bh hbox hb; have ab := Aside0.mk (hbox); have au := Aside0.mk ((by rw [hg]; exact (below_size wB) : w.heap.size ≤ ar)); replace HB := Aside0.mk (below_step wB hb); have bi := au; clear hb hbox hg; obtain ⟨⟨ax, ay, az, aA, aB, aC, aD, aE, aF, aG, av⟩, aH, aI, aJ, aK, aL, aM, aN, aO, aP, aQ, aw⟩ := cells11 ab.out) | ((with_reducible refine gate_callee (f := 41) rfl ?_); refine gL (some 4) Try.func41 #[.agg #[.int .i64 ah, .int .i64 ai, .bool aj, .bool ak, .int .i64 ac, .int .i64 al, .int .i64 ad, .int .i64 ae, .int .i64 af, .slice A0_9 ag.length ao, .slice A0_10 aa.length am]] ?_; (with_reducible refine (impl_codeIP.calls ah ai aj ak ac al ad ae af _ _ ag _ _ aa an _ ?side1 ?side2 ?side3 ?side4 A2.out).mono ?_); (case side1 => exact Kd.C_below HR0_9.out wB); (case side2 => exact be.out); (case side3 => exact Kd.C_below HR0_10.out wB); (case side4 => exact aR.out); rintro e bj ⟨rfl, hb⟩; refine ⟨_, rfl, ?_⟩; replace ab := Aside0.mk (blk_below (Bh ab) hb); replace HB := Aside0.mk (below_step wB hb); clear hb; obtain ⟨⟨aU, aV, aW, aX, aY, aZ, a0, a1, a2, a3, aS⟩, a4, a5, a6, a7, a8, a9, ba, bb, bc, bd, aT⟩ := cells11 ab.out) | (go_at_call 62; (with_reducible refine (impl_AddrKind.calls ae ap _ A5.out).mono ?_); rintro e w' ⟨rfl, ⟨nd, rfl⟩⟩) | (go_at_call 62; (with_reducible refine (impl_AddrKind.calls af aq _ A7.out).mono ?_); rintro e w' ⟨rfl, ⟨nd, rfl⟩⟩; have p390 : 0 ≤ (0 : Int) := (by omega); have q390 : 0 < (aa.length : Int) := dT; obtain ⟨ad390, e390, hx390_0⟩ := Kd.at_int HR0_10.out 0 p390 q390; cases e390; have qi390 : (0 < aa.length) = True := eq_true (by omega); (try rw [show ((0 : Int)).toNat = 0 from rfl] at hx390_0); (try rw [Addr.add_zero'] at hx390_0); replace hx390_0 := (HB.out.cell (World.block_lt_of_cell? w _ hx390_0)).trans hx390_0; replace p390 := eq_true p390; replace q390 := eq_true q390; have p391 : 0 ≤ (0 : Int) := (by omega); have q391 : 0 < (aa.length : Int) := dT; obtain ⟨ad391, e391, hx391_0⟩ := Kd.at_int HR0_10.out 0 p391 q391; obtain rfl : ad390 = ad391 := (by injection e391); have qi391 : (0 < aa.length) = True := eq_true (by omega); (try rw [show ((0 : Int)).toNat = 0 from rfl] at hx391_0); (try rw [Addr.add_zero'] at hx391_0); replace hx391_0 := (HB.out.cell (World.block_lt_of_cell? w _ hx391_0)).trans hx391_0; replace p391 := eq_true p391; replace q391 := eq_true q391))
 all_goals (try (rename_i h_; exfalso; cases h_; done))
 all_goals (try (rename_i h_ h2_; exfalso; cases h_; done))
 go_ret
 exact ⟨eR, wB⟩
 }
 iterate 5 (
 focus (
 go_wp2_with (first | ((with_reducible refine gate_dst (N := 1) rfl ?_); (try (refine gate_guard (by rfl) ?_; dsimp only)); refine boxE 1 #[.int .i64 ah, .int .i64 ai, .bool aj, .bool ak, .int .i64 ac, .int .i64 al, .int .i64 ad, .int .i64 ae, .int .i64 af, .slice A0_9 ag.length ao, .slice A0_10 aa.length am] 25 ?_; intro ar hg bh hbox hb; have ab := Aside0.mk (hbox); have au := Aside0.mk ((by rw [hg]; exact (below_size wB) : w.heap.size ≤ ar)); replace HB := Aside0.mk (below_step wB hb); have bi := au; clear hb hbox hg; obtain ⟨⟨ax, ay, az, aA, aB, aC, aD, aE, aF, aG, av⟩, aH, aI, aJ, aK, aL, aM, aN, aO, aP, aQ, aw⟩ := cells11 ab.out) | ((with_reducible refine gate_callee (f := 41) rfl ?_); refine gL (some 4) Try.func41 #[.agg #[.int .i64 ah, .int .i64 ai, .bool aj, .bool ak, .int .i64 ac, .int .i64 al, .int .i64 ad, .int .i64 ae, .int .i64 af, .slice A0_9 ag.length ao, .slice A0_10 aa.length am]] ?_; (with_reducible refine (impl_codeIP.calls ah ai aj ak ac al ad ae af _ _ ag _ _ aa an _ ?side1 ?side2 ?side3 ?side4 A2.out).mono ?_); (case side1 => exact Kd.C_below HR0_9.out wB); (case side2 => exact be.out); (case side3 => exact Kd.C_below HR0_10.out wB); (case side4 => exact aR.out); rintro e bj ⟨rfl, hb⟩; refine ⟨_, rfl, ?_⟩; replace ab := Aside0.mk (blk_below (Bh ab) hb); replace HB := Aside0.mk (below_step wB hb); clear hb; obtain ⟨⟨aU, aV, aW, aX, aY, aZ, a0, a1, a2, a3, aS⟩, a4, a5, a6, a7, a8, a9, ba, bb, bc, bd, aT⟩ := cells11 ab.out) | (go_at_call 62; (with_reducible refine (impl_AddrKind.calls ae ap _ A5.out).mono ?_); rintro e w' ⟨rfl, ⟨nd, rfl⟩⟩) | (go_at_call 62; (with_reducible refine (impl_AddrKind.calls af aq _ A7.out).mono ?_); rintro e w' ⟨rfl, ⟨nd, rfl⟩⟩))
 all_goals (try (rename_i h_; exfalso; cases h_; done))
 all_goals (try (rename_i h_ h2_; exfalso; cases h_; done))
 go_ret
 exact ⟨eR, wB⟩
 )
 )
 {
 go_wp2_with (first | ((with_reducible refine gate_dst (N := 1) rfl ?_); (try (refine gate_guard (by rfl) ?_; dsimp only)); refine boxE 1 #[.int .i64 ah, .int .i64 ai, .bool aj, .bool ak, .int .i64 ac, .int .i64 al, .int .i64 ad, .int .i64 ae, .int .i64 af, .slice A0_9 ag.length ao, .slice A0_10 aa.length am] 25 ?_; intro ar hg bh hbox hb; have ab := Aside0.mk (hbox); have au := Aside0.mk ((by rw [hg]; exact (below_size wB) : w.heap.size ≤ ar)); replace HB := Aside0.mk (below_step wB hb); have bi := au; clear hb hbox hg; obtain ⟨⟨ax, ay, az, aA, aB, aC, aD, aE, aF, aG, av⟩, aH, aI, aJ, aK, aL, aM, aN, aO, aP, aQ, aw⟩ := cells11 ab.out) | ((with_reducible refine gate_callee (f := 41) rfl ?_); refine gL (some 4) Try.func41 #[.agg #[.int .i64 ah, .int .i64 ai, .bool aj, .bool ak, .int .i64 ac, .int .i64 al, .int .i64 ad, .int .i64 ae, .int .i64 af, .slice A0_9 ag.length ao, .slice A0_10 aa.length am]] ?_; (with_reducible refine (impl_codeIP.calls ah ai aj ak ac al ad ae af _ _ ag _ _ aa an _ ?side1 ?side2 ?side3 ?side4 A2.out).mono ?_); (case side1 => exact Kd.C_below HR0_9.out wB); (case side2 => exact be.out); (case side3 => exact Kd.C_below HR0_10.out wB); (case side4 => exact aR.out); rintro e bj ⟨rfl, hb⟩; refine ⟨_, rfl, ?_⟩; replace ab := Aside0.mk (blk_below (Bh ab) hb); replace HB := Aside0.mk (below_step wB hb); clear hb))
 all_goals (try (rename_i h_; exfalso; cases h_; done))
 all_goals (try (rename_i h_ h2_; exfalso; cases h_; done))
 go_ret
 exact ⟨eR, wB⟩
 }

end Go.Proofs.Ytckhadlmhbhngaa.PFnComplain
