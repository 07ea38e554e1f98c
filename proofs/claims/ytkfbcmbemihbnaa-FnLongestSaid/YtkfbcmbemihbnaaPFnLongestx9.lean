-- Written for this claim by a program of this session (wip/mkprint.py: the print, turned at a few places). Not trusted: Lean checks it.
import Derived.Test.YtkfbcmbemihbnaaPFnLongestx0
import Derived.Test.YtkfbcmbemihbnaaPFnLongestx1
import Derived.Test.YtkfbcmbemihbnaaPFnLongestx4
import Derived.Test.YtkfbcmbemihbnaaPFnLongestx5
import Derived.Test.YtkfbcmbemihbnaaPFnLongestx7
import Derived.Test.YtkfbcmbemihbnaaPFnLongestx8
namespace Go.Proofs.Ytkfbcmbemihbnaa.PFnLongest
open Go.RowKit Go.Proofs.YtkfbcmbemihbnaaW.PrintWords Go.Proofs.YtkfbcmbemihbnaaW.PrintLast Go.Proofs.YtkfbcmbemihbnaaW.PrintMore
attribute [local go_sem] max2_int min2_int max_two min_two max_three min_three max_four min_four   -- for this text's walks alone
set_option linter.unusedVariables false
set_option linter.unusedSimpArgs false

attribute [local go_sem high] eqA76
/-! ### laws_FnLongest: function 8 -/
mutual
def laws_FnLongest.l0 : Nat → List (S76) → Int → Bool → Bool → Bool → Int → Int → Int → Int → Int → Int → Option (Bool)
  | 0, _, _, _, _, _, _, _, _, _, _, _ => none
  | k + 1, x3, x4, x6, x7, x8, x9, x323000, x323001, x323002, x323003, x323004 => if x9 < (x3.length : Int) then (if 0 ≤ x9 then (if x9 ≤ (wrap64 (x9 + 1)) then (if (wrap64 (x9 + 1)) ≤ (x3.length : Int) then ((spec_ShowRoutes.f k ((x3.take ((wrap64 (x9 + 1)) : Int).toNat).drop (x9 : Int).toNat)).bind fun bt329 => (if bt329.2 = 0 then ((spec_PrefixHas.f k ((rd_T76 x3 x9).f0.f0) ((rd_T76 x3 x9).f0.f1) x4).bind fun t331 => (laws_FnLongest.j1 k x3 x4 x6 x7 x8 x9 (!t331) x323000 x323001 x323002 x323003 x323004 ((rd_T76 x3 x9).f0.f0) ((rd_T76 x3 x9).f0.f1) ((rd_T76 x3 x9).f1) ((rd_T76 x3 x9).f2) ((rd_T76 x3 x9).f3))) else (laws_FnLongest.j1 k x3 x4 x6 x7 x8 x9 true x323000 x323001 x323002 x323003 x323004 ((rd_T76 x3 x9).f0.f0) ((rd_T76 x3 x9).f0.f1) ((rd_T76 x3 x9).f1) ((rd_T76 x3 x9).f2) ((rd_T76 x3 x9).f3)))) else (none)) else (none)) else (none)) else (if (x6 != x7) = true then (laws_FnLongest.j2 k x3 x4 x6 true x323000 x323001 x323002 x323003 x323004) else (if x6 = true then (laws_FnLongest.j2 k x3 x4 x6 (!x8) x323000 x323001 x323002 x323003 x323004) else (laws_FnLongest.j2 k x3 x4 x6 false x323000 x323001 x323002 x323003 x323004)))
def laws_FnLongest.j1 : Nat → List (S76) → Int → Bool → Bool → Bool → Int → Bool → Int → Int → Int → Int → Int → Int → Int → Int → Int → Int → Option (Bool)
  | 0, _, _, _, _, _, _, _, _, _, _, _, _, _, _, _, _, _ => none
  | k + 1, x3, x4, x6, x7, x8, x9, x59, x323000, x323001, x323002, x323003, x323004, x325000, x325001, x325002, x325003, x325004 => if x59 = true then (laws_FnLongest.l0 k x3 x4 x6 x7 x8 (wrap64 (x9 + 1)) x323000 x323001 x323002 x323003 x323004) else (if ((x325000 == x323000 && (x325001 == x323001)) && (x325002 == x323002 && (x325003 == x323003 && (x325004 == x323004)))) = true then (if x6 = true then (if x325001 > x323001 then (some false) else (if x325001 = x323001 then (if x325004 < x323004 then (some false) else (laws_FnLongest.l0 k x3 x4 x6 true true (wrap64 (x9 + 1)) x323000 x323001 x323002 x323003 x323004)) else (laws_FnLongest.l0 k x3 x4 x6 true true (wrap64 (x9 + 1)) x323000 x323001 x323002 x323003 x323004))) else (some false)) else (if x6 = true then (if x325001 > x323001 then (some false) else (if x325001 = x323001 then (if x325004 < x323004 then (some false) else (laws_FnLongest.l0 k x3 x4 x6 true x8 (wrap64 (x9 + 1)) x323000 x323001 x323002 x323003 x323004)) else (laws_FnLongest.l0 k x3 x4 x6 true x8 (wrap64 (x9 + 1)) x323000 x323001 x323002 x323003 x323004))) else (some false)))
def laws_FnLongest.j2 : Nat → List (S76) → Int → Bool → Bool → Int → Int → Int → Int → Int → Option (Bool)
  | 0, _, _, _, _, _, _, _, _, _ => none
  | k + 1, x3, x4, x6, x99, x323000, x323001, x323002, x323003, x323004 => if x99 = true then (some false) else (if x6 = true then ((some (([] : List (S76)) : List (S76))).bind fun y333 => (if y333.length + x3.length < 3518437208883 then ((some (y333 ++ x3 : List (S76))).bind fun y336 => ((some (([(⟨(⟨x323000, x323001⟩ : S74), 167772177, x323003, x323004⟩ : S76)] : List (S76)) : List (S76))).bind fun y339 => (if y336.length + y339.length < 3518437208883 then ((impl_FindRoute.f k (y336 ++ y339) x4).bind fun bt345 => (if bt345.2.2.2.2.2 = true then (some ((bt345.1 == x323000 && (bt345.2.1 == x323001)) && (bt345.2.2.1 == x323002 && (bt345.2.2.2.1 == x323003 && (bt345.2.2.2.2.1 == x323004))))) else (some false))) else (none)))) else (none))) else (some ((x323000 == 0 && (x323001 == 0)) && (x323002 == 0 && (x323003 == 0 && (x323004 == 0))))))
end
def laws_FnLongest.f (k : Nat) (l0 : List Int) : Option (Bool) := if (l0.length : Int) > 1048576 then (some true) else ((spec_DrawFindRoute.f k l0).bind fun bt306 => ((some (([] : List (S76)) : List (S76))).bind fun y310 => (if y310.length + bt306.1.length < 3518437208883 then ((impl_FindRoute.f k (y310 ++ bt306.1) bt306.2).bind fun bt316 => (laws_FnLongest.l0 k bt306.1 bt306.2 bt316.2.2.2.2.2 false false 0 bt316.1 bt316.2.1 bt316.2.2.1 bt316.2.2.2.1 bt316.2.2.2.2.1)) else (none))))
theorem laws_FnLongest.mono_l : ∀ k, (∀ y0 y1 y2 y3 y4 y5 y6 y7 y8 y9 y10, LeO (laws_FnLongest.l0 k y0 y1 y2 y3 y4 y5 y6 y7 y8 y9 y10) (laws_FnLongest.l0 (k + 1) y0 y1 y2 y3 y4 y5 y6 y7 y8 y9 y10)) ∧ (∀ y0 y1 y2 y3 y4 y5 y6 y7 y8 y9 y10 y11 y12 y13 y14 y15 y16, LeO (laws_FnLongest.j1 k y0 y1 y2 y3 y4 y5 y6 y7 y8 y9 y10 y11 y12 y13 y14 y15 y16) (laws_FnLongest.j1 (k + 1) y0 y1 y2 y3 y4 y5 y6 y7 y8 y9 y10 y11 y12 y13 y14 y15 y16)) ∧ (∀ y0 y1 y2 y3 y4 y5 y6 y7 y8, LeO (laws_FnLongest.j2 k y0 y1 y2 y3 y4 y5 y6 y7 y8) (laws_FnLongest.j2 (k + 1) y0 y1 y2 y3 y4 y5 y6 y7 y8))
  | 0 => ⟨fun _ _ _ _ _ _ _ _ _ _ _ r h => by simp [laws_FnLongest.l0] at h, fun _ _ _ _ _ _ _ _ _ _ _ _ _ _ _ _ _ r h => by simp [laws_FnLongest.j1] at h, fun _ _ _ _ _ _ _ _ _ r h => by simp [laws_FnLongest.j2] at h⟩
  | k + 1 => by
    obtain ⟨ih0, ih1, ih2⟩ := laws_FnLongest.mono_l k
    refine ⟨?_, ?_, ?_⟩
    · intro y0 y1 y2 y3 y4 y5 y6 y7 y8 y9 y10
      unfold laws_FnLongest.l0
      repeat' first
      | (with_reducible exact ih0 _ _ _ _ _ _ _ _ _ _ _)
      | (with_reducible exact ih1 _ _ _ _ _ _ _ _ _ _ _ _ _ _ _ _ _)
      | (with_reducible exact ih2 _ _ _ _ _ _ _ _ _)
      | (with_reducible exact impl_FindRoute.mono _ _ _)
      | (with_reducible exact spec_DrawFindRoute.mono _ _)
      | (with_reducible exact spec_PrefixHas.mono _ _ _ _)
      | (with_reducible exact spec_ShowRoutes.mono _ _)
      | (with_reducible exact LeO.refl _)
      | (with_reducible exact LeO.none _)
      | (with_reducible refine LeO.ite ?_ ?_)
      | (with_reducible refine LeO.bind ?_ (fun _ => ?_))
      | exact ih0 _ _ _ _ _ _ _ _ _ _ _
      | exact ih1 _ _ _ _ _ _ _ _ _ _ _ _ _ _ _ _ _
      | exact ih2 _ _ _ _ _ _ _ _ _
      | exact impl_FindRoute.mono _ _ _
      | exact spec_DrawFindRoute.mono _ _
      | exact spec_PrefixHas.mono _ _ _ _
      | exact spec_ShowRoutes.mono _ _
      | exact LeO.none _
      | refine LeO.ite ?_ ?_
      | refine LeO.bind ?_ (fun _ => ?_)
    · intro y0 y1 y2 y3 y4 y5 y6 y7 y8 y9 y10 y11 y12 y13 y14 y15 y16
      unfold laws_FnLongest.j1
      repeat' first
      | (with_reducible exact ih0 _ _ _ _ _ _ _ _ _ _ _)
      | (with_reducible exact ih1 _ _ _ _ _ _ _ _ _ _ _ _ _ _ _ _ _)
      | (with_reducible exact ih2 _ _ _ _ _ _ _ _ _)
      | (with_reducible exact impl_FindRoute.mono _ _ _)
      | (with_reducible exact spec_DrawFindRoute.mono _ _)
      | (with_reducible exact spec_PrefixHas.mono _ _ _ _)
      | (with_reducible exact spec_ShowRoutes.mono _ _)
      | (with_reducible exact LeO.refl _)
      | (with_reducible exact LeO.none _)
      | (with_reducible refine LeO.ite ?_ ?_)
      | (with_reducible refine LeO.bind ?_ (fun _ => ?_))
      | exact ih0 _ _ _ _ _ _ _ _ _ _ _
      | exact ih1 _ _ _ _ _ _ _ _ _ _ _ _ _ _ _ _ _
      | exact ih2 _ _ _ _ _ _ _ _ _
      | exact impl_FindRoute.mono _ _ _
      | exact spec_DrawFindRoute.mono _ _
      | exact spec_PrefixHas.mono _ _ _ _
      | exact spec_ShowRoutes.mono _ _
      | exact LeO.none _
      | refine LeO.ite ?_ ?_
      | refine LeO.bind ?_ (fun _ => ?_)
    · intro y0 y1 y2 y3 y4 y5 y6 y7 y8
      unfold laws_FnLongest.j2
      repeat' first
      | (with_reducible exact ih0 _ _ _ _ _ _ _ _ _ _ _)
      | (with_reducible exact ih1 _ _ _ _ _ _ _ _ _ _ _ _ _ _ _ _ _)
      | (with_reducible exact ih2 _ _ _ _ _ _ _ _ _)
      | (with_reducible exact impl_FindRoute.mono _ _ _)
      | (with_reducible exact spec_DrawFindRoute.mono _ _)
      | (with_reducible exact spec_PrefixHas.mono _ _ _ _)
      | (with_reducible exact spec_ShowRoutes.mono _ _)
      | (with_reducible exact LeO.refl _)
      | (with_reducible exact LeO.none _)
      | (with_reducible refine LeO.ite ?_ ?_)
      | (with_reducible refine LeO.bind ?_ (fun _ => ?_))
      | exact ih0 _ _ _ _ _ _ _ _ _ _ _
      | exact ih1 _ _ _ _ _ _ _ _ _ _ _ _ _ _ _ _ _
      | exact ih2 _ _ _ _ _ _ _ _ _
      | exact impl_FindRoute.mono _ _ _
      | exact spec_DrawFindRoute.mono _ _
      | exact spec_PrefixHas.mono _ _ _ _
      | exact spec_ShowRoutes.mono _ _
      | exact LeO.none _
      | refine LeO.ite ?_ ?_
      | refine LeO.bind ?_ (fun _ => ?_)
theorem laws_FnLongest.mono : ∀ a0 k, LeO (laws_FnLongest.f k a0) (laws_FnLongest.f (k + 1) a0) := by
 intro a0 k
 obtain ⟨ih0, ih1, ih2⟩ := laws_FnLongest.mono_l k
 unfold laws_FnLongest.f
 repeat' first
     | (with_reducible exact ih0 _ _ _ _ _ _ _ _ _ _ _)
     | (with_reducible exact ih1 _ _ _ _ _ _ _ _ _ _ _ _ _ _ _ _ _)
     | (with_reducible exact ih2 _ _ _ _ _ _ _ _ _)
     | (with_reducible exact impl_FindRoute.mono _ _ _)
     | (with_reducible exact spec_DrawFindRoute.mono _ _)
     | (with_reducible exact spec_PrefixHas.mono _ _ _ _)
     | (with_reducible exact spec_ShowRoutes.mono _ _)
     | (with_reducible exact LeO.refl _)
     | (with_reducible exact LeO.none _)
     | (with_reducible refine LeO.ite ?_ ?_)
     | (with_reducible refine LeO.bind ?_ (fun _ => ?_))
     | exact ih0 _ _ _ _ _ _ _ _ _ _ _
     | exact ih1 _ _ _ _ _ _ _ _ _ _ _ _ _ _ _ _ _
     | exact ih2 _ _ _ _ _ _ _ _ _
     | exact impl_FindRoute.mono _ _ _
     | exact spec_DrawFindRoute.mono _ _
     | exact spec_PrefixHas.mono _ _ _ _
     | exact spec_ShowRoutes.mono _ _
     | exact LeO.none _
     | refine LeO.ite ?_ ?_
     | refine LeO.bind ?_ (fun _ => ?_)
def laws_FnLongest.T24 : Bool × List (List Nat × List Nat) := (true, [([], []), ([], []), ([0, 1], [0, 1]), ([], []), ([3], [3]), ([2, 4, 2], [2, 4]), ([], []), ([5, 6, 5], [5, 6]), ([7], [7]), ([8], [8]), ([8], [8]), ([], []), ([11, 9, 7, 0, 1, 2, 3, 4, 5, 6, 7, 8, 9, 11], [9, 11]), ([10, 12, 0, 1, 2, 3, 4, 5, 6, 7, 8, 9, 10, 11, 12], [10])])
def laws_FnLongest.B24 : List Nat := [0, 0, 3, 0, 8, 31, 0, 127, 255, 511, 511, 0, 3071, 8191]
theorem laws_FnLongest.tab24 : rtab .any (opsOf Try.f8 24) = laws_FnLongest.T24 := by kernel_rfl
theorem laws_FnLongest.bits24 : waitsOk laws_FnLongest.T24.2 laws_FnLongest.B24 = true := by kernel_rfl
set_option maxHeartbeats 60000000 in
set_option maxRecDepth 100000 in
theorem laws_FnLongest.calls (k : Nat) (A0 : Option Addr) (c0 : Nat) (l0 : List Int) (r : Bool) (w : World) (hr0 : Kd.C (Kd.int .u8) w A0 l0.length l0) (hc0 : l0.length ≤ c0) (h : laws_FnLongest.f k l0 = some r) :
 Calls Try.prog 8 #[.slice A0 l0.length c0] w fun e w' => e = .returned (.bool r) ∧ Below w.heap.size w w' := by
 have hu76 := Try.underlying76
 have hu74 := Try.underlying74
 have HR0 := Aside0.mk hr0
 have HC0 := Aside0.mk hc0
 clear hr0 hc0
 have HB := Aside0.mk (Below.refl w.heap.size w)
 have H : (if (l0.length : Int) > 1048576 then (some true) else ((spec_DrawFindRoute.f k l0).bind fun bt306 => ((some (([] : List (S76)) : List (S76))).bind fun y310 => (if y310.length + bt306.1.length < 3518437208883 then ((impl_FindRoute.f k (y310 ++ bt306.1) bt306.2).bind fun bt316 => (laws_FnLongest.l0 k bt306.1 bt306.2 bt316.2.2.2.2.2 false false 0 bt316.1 bt316.2.1 bt316.2.2.1 bt316.2.2.2.1 bt316.2.2.2.2.1)) else (none))))) = some r := h
 clear h
 by_cases c2 : (l0.length : Int) > 1048576
 {
 rw [if_pos c2] at H
 have c2b0 : decide (1048576 < (l0.length : Int)) = true := decide_eq_true c2
 have c2b1 : decide (1048576 < l0.length) = true := decide_eq_true (by omega)
 clear c2
 obtain rfl := Option.some.inj H
 go_enter Try.func8, Try.ntmps8
 go_wp2
 go_ret
 exact ⟨by first | rfl | (simp [errW_none, errW_some] <;> rfl) | (simp [*, errW_none, errW_some] <;> rfl), wB⟩
 }
 {
 rw [if_neg c2] at H
 have c2b0 : decide (1048576 < (l0.length : Int)) = false := decide_eq_false c2
 have c2b1 : decide (1048576 < l0.length) = false := decide_eq_false (by omega)
 clear c2
 replace H := Option.bind_eq_some_iff.mp H
 obtain ⟨⟨t306, t307⟩, A30, H⟩ := H
 replace H : ((some (([] : List (S76)) : List (S76))).bind fun y310 => (if y310.length + t306.length < 3518437208883 then ((impl_FindRoute.f k (y310 ++ t306) t307).bind fun bt316 => (laws_FnLongest.l0 k t306 t307 bt316.2.2.2.2.2 false false 0 bt316.1 bt316.2.1 bt316.2.2.1 bt316.2.2.2.1 bt316.2.2.2.2.1)) else (none))) = some r := H
 have A3 := Aside0.mk A30
 clear A30
 obtain ⟨y310, hy310⟩ : ∃ y_ : List (S76), y_ = (([] : List (S76))) := ⟨_, rfl⟩
 replace H : (if y310.length + t306.length < 3518437208883 then ((impl_FindRoute.f k (y310 ++ t306) t307).bind fun bt316 => (laws_FnLongest.l0 k t306 t307 bt316.2.2.2.2.2 false false 0 bt316.1 bt316.2.1 bt316.2.2.1 bt316.2.2.2.1 bt316.2.2.2.2.1)) else (none)) = some r := by first | (rw [hy310]; with_reducible exact H) | (have H2_ := (Option.bind_some _ _).symm.trans H; rw [hy310]; with_reducible exact H2_) | (have H2_ := (Option.bind_some _ _).symm.trans H; with_reducible exact H2_) | with_reducible exact H | (rw [hy310]; exact H) | exact H
 have Ny310 := Aside0.mk hy310
 clear hy310
 by_cases c4 : y310.length + t306.length < 3518437208883
 {
 rw [if_pos c4] at H
 have LMc4 := Aside0.mk c4
 clear c4
 obtain ⟨y313, hy313⟩ : ∃ y_ : List (S76), y_ = (y310 ++ t306) := ⟨_, rfl⟩
 replace H : ((impl_FindRoute.f k y313 t307).bind fun bt316 => (laws_FnLongest.l0 k t306 t307 bt316.2.2.2.2.2 false false 0 bt316.1 bt316.2.1 bt316.2.2.1 bt316.2.2.2.1 bt316.2.2.2.2.1)) = some r := by first | (rw [hy313]; with_reducible exact H) | (have H2_ := (Option.bind_some _ _).symm.trans H; rw [hy313]; with_reducible exact H2_) | (have H2_ := (Option.bind_some _ _).symm.trans H; with_reducible exact H2_) | with_reducible exact H | (rw [hy313]; exact H) | exact H
 have Ny313 := Aside0.mk hy313
 clear hy313
 replace H := Option.bind_eq_some_iff.mp H
 obtain ⟨⟨t316, t317, t318, t319, t320, t321⟩, A50, H⟩ := H
 replace H : (laws_FnLongest.l0 k t306 t307 t321 false false 0 t316 t317 t318 t319 t320) = some r := H
 have A5 := Aside0.mk A50
 clear A50
 have H' := Aside0.mk H
 clear H
 go_enter Try.func8, Try.ntmps8
 go_wp2_with (first | ((with_reducible refine gate_callee (f := 43) rfl ?_); refine goesL_ (some 21) rfl rfl Try.func43 (by kernel_rfl) rfl #[.slice A0 l0.length c0] rfl wT ?_; (with_reducible refine (spec_DrawFindRoute.calls k _ _ l0 t306 t307 _ ?side1 ?side2 A3.out).mono ?_); (case side1 => repeat (first | exact HR0.out | (with_reducible refine Kd.C_alloc ?_ _) | (with_reducible refine Kd.C_drewN ?_ _) | (with_reducible refine Kd.C_drew ?_))); (case side2 => exact HC0.out); rintro e w1001 ⟨v308, rfl, ho0, hb⟩; refine ⟨_, rfl, ?_⟩; have n0_ := Aside0.mk (Kd.R_lower ho0 (below_size wB)); have n1_ := Aside0.mk (below_step wB hb); clear HB; have HO309 := n0_; have HB := n1_; clear n0_ n1_; (try clear hb); (try clear hb2); (try clear hk); (try clear hi); (try clear ho0)) | ((with_reducible refine gate_dst (N := 25) rfl ?_); refine Kd.R_lit k76 _ 76 ?hg (N := 25) ?hd (xs := ([] : List (S76))) (inner := []) (ok := fun _ => True) (okp := fun _ => True) ?hr ?hp (fun _ hk => hk) trivial (Below.refl _ _) (Nat.le_refl _) (by simp) ?_; (case hd => rfl); (case hg => rfl); (case hr => first | (go_simp; done) | (go_simp; rfl)); (case hp => exact (Reps.none _ _)); intro v311 w1002 ho1003 hb hg_ hnew_; clear hg_ hnew_; (first | rw [← Ny310.out] at ho1003 | (simp only [Int.reduceToNat] at ho1003; rw [← Ny310.out] at ho1003)); have n0_ := Aside0.mk (Kd.R_elder' (Rh HO309) (Kd.R_base ho1003) hb); have n1_ := Aside0.mk (Kd.R_lower (Kd.R_new' ho1003 (Kd.R_lt (Rh HO309))) (below_size wB)); have n2_ := Aside0.mk (below_step wB hb); clear HO309; clear HB; have HO309 := n0_; have HO312 := n1_; have HB := n2_; clear n0_ n1_ n2_; clear hb ho1003; obtain ⟨Ao1005, co1005, eo1005⟩ := Kd.R_slice HO309.out; subst eo1005) | ((with_reducible refine gate_builtin (b := .append) (xs := #[.tmp 25, .tmp 26]) rfl ?_); at_builtin; refine Kd.R_append_rows k76 (w0 := w) w.heap.size rfl (.tmp 25) (.tmp 26) 70 76 (.agg #[(.int .i64 0), (.int .i64 0), (.int .i64 0), (.int .i64 0), (.int .i64 0)]) 40 rfl Try.underlying70 info76 rfl (by decide) (by omega) v311 y310 t306 _ _ _ (fun k_ => some k_ ≠ (.slice Ao1005 t306.length co1005 : Value).ownBlock) (fun _ => False) rfl rfl ?aO ?aR (fun _ _ h => h) (fun _ h => h.elim) ?aF ?aB ?aS ?aL ?_; (case aR => exact Ch HO309); (case aB => exact wB); (case aF => exact (fun k_ hk => Kd.fresh' (Kd.R_lt (Rh HO309)) k_ hk)); (case aO => exact (Kd.R_mono (Rh HO312) (fun _ hk => hk.2))); (case aS => exact (below_size wB)); (case aL => have := LMc4.out; omega); intro v314 w1004 ho hb hg hat; rw [← Ny313.out] at ho; have n0_ := Aside0.mk (Kd.R_after (ok := (fun _ => True)) (Rh HO309) hg hat); have n1_ := Aside0.mk (hb); have n2_ := Aside0.mk (ho); clear HO309; clear HB; clear HO312; have HO309 := n0_; have HB := n1_; have HO315 := n2_; clear n0_ n1_ n2_; clear ho hb hg hat; obtain ⟨Ao1006, co1006, eo1006⟩ := Kd.R_slice HO315.out; subst eo1006) | ((with_reducible refine gate_callee (f := 44) rfl ?_); refine goesL_ (some 29) rfl rfl Try.func44 (by kernel_rfl) rfl #[.slice Ao1006 y313.length co1006, .int .i64 t307] rfl wT ?_; (with_reducible refine (impl_FindRoute.calls k _ _ y313 t307 t316 t317 t318 t319 t320 t321 _ ?side1 ?side2 A5.out).mono ?_); (case side1 => exact Ch HO315); (case side2 => exact (Kd.R_reads' HO315.out).2.1); rintro e w1007 ⟨rfl, hb⟩; refine ⟨_, rfl, ?_⟩; have n0_ := Aside0.mk (Kd.R_below (Rh HO309) hb); have n1_ := Aside0.mk (Kd.R_below (Rh HO315) hb); have n2_ := Aside0.mk (below_step wB hb); clear HO309; clear HO315; clear HB; have HO309 := n0_; have HO315 := n1_; have HB := n2_; clear n0_ n1_ n2_; (try clear hb); (try clear hb2); (try clear hk); (try clear hi)) | ((with_reducible refine gate_dst (N := 5) rfl ?_); refine box_event ?hg (N := 5) ?hd (cs := #[.int .i64 0, .int .i64 0, .int .i64 0, .int .i64 0, .int .i64 0]) (t := 76) ?hr ?_; (case hd => rfl); (case hg => rfl); (case hr => first | (go_simp; done) | (go_simp; rfl)); intro gb322 hg w1008 hbox hb; have n0_ := Aside0.mk (Kd.R_below (Kd.R_elderB (Rh HO309) gb322 (Nat.le_of_eq hg.symm)) hb); have n1_ := Aside0.mk (Kd.R_below (Kd.R_elderB (Rh HO315) gb322 (Nat.le_of_eq hg.symm)) hb); have n2_ := Aside0.mk (below_step wB hb); have n3_ := Aside0.mk (hbox); have n4_ := Aside0.mk ((by rw [hg]; exact (below_size wB) : w.heap.size ≤ gb322)); have n5_ := Aside0.mk ((by rw [hg]; exact (below_size wB) : w.heap.size ≤ gb322)); clear HO309; clear HO315; clear HB; have HO309 := n0_; have HO315 := n1_; have HB := n2_; have BK322 := n3_; have GW322 := n4_; have GE322 := n5_; clear n0_ n1_ n2_ n3_ n4_ n5_; clear hb hbox hg; obtain ⟨⟨hcz1009_0, hcz1009_1, hcz1009_2, hcz1009_3, hcz1009_4⟩, hfz1009_0, hfz1009_1, hfz1009_2, hfz1009_3, hfz1009_4⟩ := cells5 BK322.out) | ((with_reducible refine gate_store (t := 76) (p := 5) rfl ?_); (try (rw [drewN_self w1008]; generalize hq_ : World.drewN w1008 _ = w1008; have n0_ := Aside0.mk (Kd.R_at hq_ HO309.out); have n1_ := Aside0.mk (Kd.R_at hq_ HO315.out); have n2_ := Aside0.mk (blk_at hq_ BK322.out); have n3_ := Aside0.mk (below_at hq_ HB.out); clear hq_ HO309 HO315 BK322 HB; have HO309 := n0_; have HO315 := n1_; have BK322 := n2_; have HB := n3_; clear n0_ n1_ n2_ n3_; (try (obtain ⟨⟨hcyBK322_0, hcyBK322_1, hcyBK322_2, hcyBK322_3, hcyBK322_4⟩, hfyBK322_0, hfyBK322_1, hfyBK322_2, hfyBK322_3, hfyBK322_4⟩ := cells5 BK322.out)))); refine store_event (t := 76) (p := 5) (v := ?_) (w1 := (((((w1008.setCell ⟨gb322, 0, none⟩ (.int .i64 t316)).setCell ⟨gb322, 1, none⟩ (.int .i64 t317)).setCell ⟨gb322, 2, none⟩ (.int .i64 t318)).setCell ⟨gb322, 3, none⟩ (.int .i64 t319)).setCell ⟨gb322, 4, none⟩ (.int .i64 t320))) ?hg ?ho ?hn ?hr ?_; (case ho => rfl); (case hg => rfl); (case hn => rfl); (case hr => first | (go_simp; done) | (go_simp; rfl)); intro w1010 hw; have n0_ : Aside0 (Kd.R k76 76 w1010 w.heap.size (fun k_ => some k_ ≠ (.slice Ao1006 y313.length co1006 : Value).ownBlock ∧ k_ ≠ gb322) (.slice Ao1005 t306.length co1005) t306) := ⟨(by rw [hw]; exact (by (with_reducible repeat (first | apply Kd.R_alloc | apply Kd.R_drewN | apply Kd.R_drew)); exact Kd.R_mono (Kd.R_far (p := ⟨gb322, 4, none⟩) (Kd.R_far (p := ⟨gb322, 3, none⟩) (Kd.R_far (p := ⟨gb322, 2, none⟩) (Kd.R_far (p := ⟨gb322, 1, none⟩) (Kd.R_far (p := ⟨gb322, 0, none⟩) (Kd.R_mono HO309.out (fun k_ hk => (⟨hk, hk.2⟩ : _ ∧ k_ ≠ gb322))) (fun _ hk => hk.2) (.int .i64 t316)) (fun _ hk => hk.2) (.int .i64 t317)) (fun _ hk => hk.2) (.int .i64 t318)) (fun _ hk => hk.2) (.int .i64 t319)) (fun _ hk => hk.2) (.int .i64 t320)) (fun _ hk => ⟨hk.1.1.2, hk.1.2⟩)))⟩; have n1_ : Aside0 (Kd.R k76 76 w1010 w.heap.size (fun k_ => some k_ ≠ (.slice Ao1005 t306.length co1005 : Value).ownBlock ∧ k_ ≠ gb322) (.slice Ao1006 y313.length co1006) y313) := ⟨(by rw [hw]; exact (by (with_reducible repeat (first | apply Kd.R_alloc | apply Kd.R_drewN | apply Kd.R_drew)); exact Kd.R_mono (Kd.R_far (p := ⟨gb322, 4, none⟩) (Kd.R_far (p := ⟨gb322, 3, none⟩) (Kd.R_far (p := ⟨gb322, 2, none⟩) (Kd.R_far (p := ⟨gb322, 1, none⟩) (Kd.R_far (p := ⟨gb322, 0, none⟩) (Kd.R_mono HO315.out (fun k_ hk => (⟨hk, hk.2⟩ : _ ∧ k_ ≠ gb322))) (fun _ hk => hk.2) (.int .i64 t316)) (fun _ hk => hk.2) (.int .i64 t317)) (fun _ hk => hk.2) (.int .i64 t318)) (fun _ hk => hk.2) (.int .i64 t319)) (fun _ hk => hk.2) (.int .i64 t320)) (fun _ hk => ⟨hk.1.1, hk.1.2⟩)))⟩; have n2_ : Aside0 (w1010.heap[gb322]? = some (.cells #[.int .i64 t316, .int .i64 t317, .int .i64 t318, .int .i64 t319, .int .i64 t320] 76 (0, 0))) := ⟨(by rw [hw]; exact (by (with_reducible repeat (first | refine blk_drewN ?_ _ | refine blk_drew ?_ | refine blk_alloc ?_ _)); refine blk_put (cs := #[.int .i64 t316, .int .i64 t317, .int .i64 t318, .int .i64 t319, .int .i64 0]) ?_ 4 _ rfl; (with_reducible repeat (first | refine blk_drewN ?_ _ | refine blk_drew ?_ | refine blk_alloc ?_ _)); refine blk_put (cs := #[.int .i64 t316, .int .i64 t317, .int .i64 t318, .int .i64 0, .int .i64 0]) ?_ 3 _ rfl; (with_reducible repeat (first | refine blk_drewN ?_ _ | refine blk_drew ?_ | refine blk_alloc ?_ _)); refine blk_put (cs := #[.int .i64 t316, .int .i64 t317, .int .i64 0, .int .i64 0, .int .i64 0]) ?_ 2 _ rfl; (with_reducible repeat (first | refine blk_drewN ?_ _ | refine blk_drew ?_ | refine blk_alloc ?_ _)); refine blk_put (cs := #[.int .i64 t316, .int .i64 0, .int .i64 0, .int .i64 0, .int .i64 0]) ?_ 1 _ rfl; (with_reducible repeat (first | refine blk_drewN ?_ _ | refine blk_drew ?_ | refine blk_alloc ?_ _)); refine blk_put (cs := #[.int .i64 0, .int .i64 0, .int .i64 0, .int .i64 0, .int .i64 0]) ?_ 0 _ rfl; (with_reducible repeat (first | refine blk_drewN ?_ _ | refine blk_drew ?_ | refine blk_alloc ?_ _)); exact BK322.out))⟩; have n3_ : Aside0 (Below w.heap.size w w1010) := ⟨(by rw [hw]; exact wB)⟩; clear hw; clear HO309; clear HO315; clear BK322; clear HB; have HO309 := n0_; have HO315 := n1_; have BK322 := n2_; have HB := n3_; clear n0_ n1_ n2_ n3_))
 go_loopg [7, 8, 9] k (fun kq v7 v8 v9 w' => ∃ (x7_1 : Bool) (x8_1 : Bool) (x9_1 : Int), v7 = .bool x7_1 ∧ v8 = .bool x8_1 ∧ v9 = .int .i64 x9_1 ∧ Aside0 (laws_FnLongest.l0 kq t306 t307 t321 x7_1 x8_1 x9_1 t316 t317 t318 t319 t320 = some r) ∧ Aside0 (kq ≤ k) ∧ Aside0 (Kd.R k76 76 w' w.heap.size (fun k_ => k_ ≠ gb322) (.slice Ao1005 t306.length co1005) t306) ∧ Aside0 (w'.heap[gb322]? = some (.cells #[.int .i64 t316, .int .i64 t317, .int .i64 t318, .int .i64 t319, .int .i64 t320] 76 (0, 0))) ∧ Aside0 (Below w.heap.size w w'))
 case atStart => exact ⟨(false), (false), (0), (by first | rfl | (simp; done) | (simp [*]; done)), (by first | rfl | (simp; done) | (simp [*]; done)), (by first | rfl | (simp; done) | (simp [*]; done)), H', ⟨Nat.le_refl _⟩, ⟨Kd.R_mono (Rh HO309) (fun _ hk => hk.2)⟩, ⟨Bh BK322⟩, ⟨wB⟩⟩
 case round => (
 clear H'
 try clear c0
 try clear c2
 try clear c2b0
 try clear c2b1
 try clear p2
 try clear c4
 try clear hcz1009_0 hcz1009_1 hcz1009_2 hcz1009_3 hcz1009_4 hfz1009_0 hfz1009_1 hfz1009_2 hfz1009_3 hfz1009_4
 obtain ⟨x7_1, x8_1, x9_1, rfl, rfl, rfl, HA, HK1, HO_3, BK322, HB⟩ := hrel
 cases gk with
 | zero => exact absurd HA.out (by simp [laws_FnLongest.l0])
 | succ k1 => {
 have H := HA.out
 clear HA
 simp only [laws_FnLongest.l0] at H
 by_cases c1011 : x9_1 < (t306.length : Int)
 {
 rw [if_pos c1011] at H
 have c1011b0 : decide (x9_1 < (t306.length : Int)) = true := decide_eq_true c1011
 clear c1011
 by_cases c1012 : 0 ≤ x9_1
 {
 rw [if_pos c1012] at H
 have c1012b0 : decide (0 ≤ x9_1) = true := decide_eq_true c1012
 clear c1012
 have c1013b0 := eq_true (of_decide_eq_true (by first | (with_reducible assumption) | assumption) : 0 ≤ x9_1)
 by_cases c1014 : x9_1 ≤ (wrap64 (x9_1 + 1))
 {
 rw [if_pos c1014] at H
 have c1014b0 := eq_true c1014
 have c1014b1 : decide (x9_1 ≤ (wrap64 (x9_1 + 1))) = true := decide_eq_true c1014
 by_cases c1015 : (wrap64 (x9_1 + 1)) ≤ (t306.length : Int)
 {
 rw [if_pos c1015] at H
 have c1015b0 := eq_true c1015
 have c1015b1 : decide ((wrap64 (x9_1 + 1)) ≤ (t306.length : Int)) = true := decide_eq_true c1015
 obtain ⟨y325, hy325⟩ : ∃ y_ : List (S76), y_ = ((t306.take ((wrap64 (x9_1 + 1)) : Int).toNat).drop (x9_1 : Int).toNat) := ⟨_, rfl⟩
 replace H : ((spec_ShowRoutes.f k1 y325).bind fun bt329 => (if bt329.2 = 0 then ((spec_PrefixHas.f k1 ((rd_T76 t306 x9_1).f0.f0) ((rd_T76 t306 x9_1).f0.f1) t307).bind fun t331 => (laws_FnLongest.j1 k1 t306 t307 t321 x7_1 x8_1 x9_1 (!t331) t316 t317 t318 t319 t320 ((rd_T76 t306 x9_1).f0.f0) ((rd_T76 t306 x9_1).f0.f1) ((rd_T76 t306 x9_1).f1) ((rd_T76 t306 x9_1).f2) ((rd_T76 t306 x9_1).f3))) else (laws_FnLongest.j1 k1 t306 t307 t321 x7_1 x8_1 x9_1 true t316 t317 t318 t319 t320 ((rd_T76 t306 x9_1).f0.f0) ((rd_T76 t306 x9_1).f0.f1) ((rd_T76 t306 x9_1).f1) ((rd_T76 t306 x9_1).f2) ((rd_T76 t306 x9_1).f3)))) = some r := by first | (rw [hy325]; with_reducible exact H) | (have H2_ := (Option.bind_some _ _).symm.trans H; rw [hy325]; with_reducible exact H2_) | (have H2_ := (Option.bind_some _ _).symm.trans H; with_reducible exact H2_) | with_reducible exact H | (rw [hy325]; exact H) | exact H
 have Ny325 := Aside0.mk hy325
 clear hy325
 replace H := Option.bind_eq_some_iff.mp H
 obtain ⟨⟨t329, t330⟩, A10160, H⟩ := H
 replace H : (if t330 = 0 then ((spec_PrefixHas.f k1 ((rd_T76 t306 x9_1).f0.f0) ((rd_T76 t306 x9_1).f0.f1) t307).bind fun t331 => (laws_FnLongest.j1 k1 t306 t307 t321 x7_1 x8_1 x9_1 (!t331) t316 t317 t318 t319 t320 ((rd_T76 t306 x9_1).f0.f0) ((rd_T76 t306 x9_1).f0.f1) ((rd_T76 t306 x9_1).f1) ((rd_T76 t306 x9_1).f2) ((rd_T76 t306 x9_1).f3))) else (laws_FnLongest.j1 k1 t306 t307 t321 x7_1 x8_1 x9_1 true t316 t317 t318 t319 t320 ((rd_T76 t306 x9_1).f0.f0) ((rd_T76 t306 x9_1).f0.f1) ((rd_T76 t306 x9_1).f1) ((rd_T76 t306 x9_1).f2) ((rd_T76 t306 x9_1).f3))) = some r := H
 have A1016 := Aside0.mk A10160
 clear A10160
 have HC1017 := Aside0.mk H
 clear H
 have p323 : 0 ≤ (x9_1 : Int) := of_decide_eq_true (by first | (with_reducible assumption) | assumption)
 have q323 : x9_1 < (t306.length : Int) := of_decide_eq_true (by first | (with_reducible assumption) | assumption)
 obtain ⟨ad323, e323, hx323_0, hx323_1, hx323_2, hx323_3, hx323_4⟩ := at_T76 (Kd.R_reads' HO_3.out).2.2 x9_1 p323 q323
 cases e323
 replace p323 := eq_true p323
 replace q323 := eq_true q323
 go_upto_region 12 with (first | ((with_reducible refine gate_dst (N := 10) rfl ?_); refine box_event ?hg (N := 10) ?hd (cs := #[.int .i64 0, .int .i64 0, .int .i64 0, .int .i64 0, .int .i64 0]) (t := 76) ?hr ?_; (case hd => rfl); (case hg => rfl); (case hr => first | (go_simp; done) | (go_simp; rfl)); intro gb324 hg w2001 hbox hb; have n0_ := Aside0.mk (Kd.R_below (Kd.R_elderB (Rh HO_3) gb324 (Nat.le_of_eq hg.symm)) hb); have n1_ := Aside0.mk (blk_below (Bh BK322) hb); have n2_ := Aside0.mk (below_step wB hb); have n3_ := Aside0.mk (hbox); have n4_ := Aside0.mk ((by rw [hg]; exact (below_size wB) : w.heap.size ≤ gb324)); have n5_ := Aside0.mk ((by rw [hg]; exact (below_size wB) : w.heap.size ≤ gb324)); have n6_ := Aside0.mk ((by rw [hg]; exact Nat.ne_of_lt (blk_lt (Bh BK322)) : gb322 ≠ gb324)); have n7_ := Aside0.mk ((by rw [hg]; exact Nat.ne_of_gt (blk_lt (Bh BK322)) : gb324 ≠ gb322)); clear HO_3; clear BK322; clear HB; have HO_3 := n0_; have BK322 := n1_; have HB := n2_; have BK324 := n3_; have GW324 := n4_; have GE324 := n5_; have NB322_324 := n6_; have NB324_322 := n7_; clear n0_ n1_ n2_ n3_ n4_ n5_ n6_ n7_; clear hb hbox hg; have hnb2002 := NB324_322.out; have hnc2002 := NB322_324.out; obtain ⟨⟨hcz2003_0, hcz2003_1, hcz2003_2, hcz2003_3, hcz2003_4⟩, hfz2003_0, hfz2003_1, hfz2003_2, hfz2003_3, hfz2003_4⟩ := cells5 BK324.out) | ((with_reducible refine gate_store (t := 76) (p := 10) rfl ?_); (try (rw [drewN_self w2001]; generalize hq_ : World.drewN w2001 _ = w2001; have n0_ := Aside0.mk (Kd.R_at hq_ HO_3.out); have n1_ := Aside0.mk (blk_at hq_ BK322.out); have n2_ := Aside0.mk (blk_at hq_ BK324.out); have n3_ := Aside0.mk (below_at hq_ HB.out); clear hq_ HO_3 BK322 BK324 HB; have HO_3 := n0_; have BK322 := n1_; have BK324 := n2_; have HB := n3_; clear n0_ n1_ n2_ n3_; (try (obtain ⟨⟨hcyBK322_0, hcyBK322_1, hcyBK322_2, hcyBK322_3, hcyBK322_4⟩, hfyBK322_0, hfyBK322_1, hfyBK322_2, hfyBK322_3, hfyBK322_4⟩ := cells5 BK322.out)); (try (obtain ⟨⟨hcyBK324_0, hcyBK324_1, hcyBK324_2, hcyBK324_3, hcyBK324_4⟩, hfyBK324_0, hfyBK324_1, hfyBK324_2, hfyBK324_3, hfyBK324_4⟩ := cells5 BK324.out)))); refine store_event (t := 76) (p := 10) (v := ?_) (w1 := (((((w2001.setCell ⟨gb324, 0, none⟩ (.int .i64 ((rd_T76 t306 x9_1).f0.f0))).setCell ⟨gb324, 1, none⟩ (.int .i64 ((rd_T76 t306 x9_1).f0.f1))).setCell ⟨gb324, 2, none⟩ (.int .i64 ((rd_T76 t306 x9_1).f1))).setCell ⟨gb324, 3, none⟩ (.int .i64 ((rd_T76 t306 x9_1).f2))).setCell ⟨gb324, 4, none⟩ (.int .i64 ((rd_T76 t306 x9_1).f3)))) ?hg ?ho ?hn ?hr ?_; (case ho => rfl); (case hg => rfl); (case hn => rfl); (case hr => first | (go_simp; done) | (go_simp; rfl)); intro w2004 hw; have n0_ : Aside0 (Kd.R k76 76 w2004 w.heap.size (fun k_ => k_ ≠ gb322 ∧ k_ ≠ gb324) (.slice (some ad323) t306.length co1005) t306) := ⟨(by rw [hw]; exact (by (with_reducible repeat (first | apply Kd.R_alloc | apply Kd.R_drewN | apply Kd.R_drew)); exact Kd.R_mono (Kd.R_far (p := ⟨gb324, 4, none⟩) (Kd.R_far (p := ⟨gb324, 3, none⟩) (Kd.R_far (p := ⟨gb324, 2, none⟩) (Kd.R_far (p := ⟨gb324, 1, none⟩) (Kd.R_far (p := ⟨gb324, 0, none⟩) (Kd.R_mono HO_3.out (fun k_ hk => (⟨hk, hk.2⟩ : _ ∧ k_ ≠ gb324))) (fun _ hk => hk.2) (.int .i64 ((rd_T76 t306 x9_1).f0.f0))) (fun _ hk => hk.2) (.int .i64 ((rd_T76 t306 x9_1).f0.f1))) (fun _ hk => hk.2) (.int .i64 ((rd_T76 t306 x9_1).f1))) (fun _ hk => hk.2) (.int .i64 ((rd_T76 t306 x9_1).f2))) (fun _ hk => hk.2) (.int .i64 ((rd_T76 t306 x9_1).f3))) (fun _ hk => ⟨hk.1.1, hk.1.2⟩)))⟩; have n1_ : Aside0 (w2004.heap[gb322]? = some (.cells #[.int .i64 t316, .int .i64 t317, .int .i64 t318, .int .i64 t319, .int .i64 t320] 76 (0, 0))) := ⟨(by rw [hw]; exact (by (with_reducible repeat (first | refine blk_drewN ?_ _ | refine blk_drew ?_ | refine blk_alloc ?_ _)); refine blk_far ?_ NB322_324.out _; (with_reducible repeat (first | refine blk_drewN ?_ _ | refine blk_drew ?_ | refine blk_alloc ?_ _)); refine blk_far ?_ NB322_324.out _; (with_reducible repeat (first | refine blk_drewN ?_ _ | refine blk_drew ?_ | refine blk_alloc ?_ _)); refine blk_far ?_ NB322_324.out _; (with_reducible repeat (first | refine blk_drewN ?_ _ | refine blk_drew ?_ | refine blk_alloc ?_ _)); refine blk_far ?_ NB322_324.out _; (with_reducible repeat (first | refine blk_drewN ?_ _ | refine blk_drew ?_ | refine blk_alloc ?_ _)); refine blk_far ?_ NB322_324.out _; (with_reducible repeat (first | refine blk_drewN ?_ _ | refine blk_drew ?_ | refine blk_alloc ?_ _)); exact BK322.out))⟩; have n2_ : Aside0 (w2004.heap[gb324]? = some (.cells #[.int .i64 ((rd_T76 t306 x9_1).f0.f0), .int .i64 ((rd_T76 t306 x9_1).f0.f1), .int .i64 ((rd_T76 t306 x9_1).f1), .int .i64 ((rd_T76 t306 x9_1).f2), .int .i64 ((rd_T76 t306 x9_1).f3)] 76 (0, 0))) := ⟨(by rw [hw]; exact (by (with_reducible repeat (first | refine blk_drewN ?_ _ | refine blk_drew ?_ | refine blk_alloc ?_ _)); refine blk_put (cs := #[.int .i64 ((rd_T76 t306 x9_1).f0.f0), .int .i64 ((rd_T76 t306 x9_1).f0.f1), .int .i64 ((rd_T76 t306 x9_1).f1), .int .i64 ((rd_T76 t306 x9_1).f2), .int .i64 0]) ?_ 4 _ rfl; (with_reducible repeat (first | refine blk_drewN ?_ _ | refine blk_drew ?_ | refine blk_alloc ?_ _)); refine blk_put (cs := #[.int .i64 ((rd_T76 t306 x9_1).f0.f0), .int .i64 ((rd_T76 t306 x9_1).f0.f1), .int .i64 ((rd_T76 t306 x9_1).f1), .int .i64 0, .int .i64 0]) ?_ 3 _ rfl; (with_reducible repeat (first | refine blk_drewN ?_ _ | refine blk_drew ?_ | refine blk_alloc ?_ _)); refine blk_put (cs := #[.int .i64 ((rd_T76 t306 x9_1).f0.f0), .int .i64 ((rd_T76 t306 x9_1).f0.f1), .int .i64 0, .int .i64 0, .int .i64 0]) ?_ 2 _ rfl; (with_reducible repeat (first | refine blk_drewN ?_ _ | refine blk_drew ?_ | refine blk_alloc ?_ _)); refine blk_put (cs := #[.int .i64 ((rd_T76 t306 x9_1).f0.f0), .int .i64 0, .int .i64 0, .int .i64 0, .int .i64 0]) ?_ 1 _ rfl; (with_reducible repeat (first | refine blk_drewN ?_ _ | refine blk_drew ?_ | refine blk_alloc ?_ _)); refine blk_put (cs := #[.int .i64 0, .int .i64 0, .int .i64 0, .int .i64 0, .int .i64 0]) ?_ 0 _ rfl; (with_reducible repeat (first | refine blk_drewN ?_ _ | refine blk_drew ?_ | refine blk_alloc ?_ _)); exact BK324.out))⟩; have n3_ : Aside0 (Below w.heap.size w w2004) := ⟨(by rw [hw]; exact wB)⟩; clear hw; clear HO_3; clear BK322; clear BK324; clear HB; have HO_3 := n0_; have BK322 := n1_; have BK324 := n2_; have HB := n3_; clear n0_ n1_ n2_ n3_; have q2005 : ((wrap64 (x9_1 + 1)) : Int) ≤ ((t306.length : Int) : Int) := of_decide_eq_true (by first | (with_reducible assumption) | assumption); obtain ⟨i02005, hi02005, _, hsz2005, _⟩ := info_parts info76; have hroom2005 : t306.length ≤ co1005 := (Kd.R_reads' HO_3.out).2.1; have hC2005 : Kd.C k76 _ (some ad323) t306.length t306 := (Kd.R_reads' HO_3.out).2.2; have ql2005 : (x9_1 : Int) ≤ ((wrap64 (x9_1 + 1)) : Int) := of_decide_eq_true (by first | (with_reducible assumption) | assumption); have q02005 : (0 : Int) ≤ (x9_1 : Int) := of_decide_eq_true (by first | (with_reducible assumption) | assumption); have hcut2005 := cut_mid (P := Try.prog) 70 76 .i64 .i64 Try.underlying70 hi02005 5 hsz2005 (some ad323) t306.length co1005 x9_1 (wrap64 (x9_1 + 1)) q02005 ql2005 q2005 hroom2005; have hr2005 := Kd.C_mid (lo := (x9_1 : Int).toNat) (hi := ((wrap64 (x9_1 + 1)) : Int).toNat) (c := co1005) hC2005 (by omega) (by omega) hroom2005; obtain ⟨A2005, hA2005⟩ : ∃ A1, A1 = (if co1005 = (x9_1 : Int).toNat then (some ad323) else ((some ad323) : Option Addr).map (·.add ((x9_1 : Int).toNat * 5))) := ⟨_, rfl⟩; obtain ⟨c2005, hc2005⟩ : ∃ c1, c1 = co1005 - (x9_1 : Int).toNat := ⟨_, rfl⟩; have hy2005 : y325.length = ((wrap64 (x9_1 + 1)) : Int).toNat - (x9_1 : Int).toNat := (by rw [Ny325.out, List.length_drop, List.length_take] <;> omega); rw [show ((t306).take ((wrap64 (x9_1 + 1)) : Int).toNat).drop (x9_1 : Int).toNat = y325 from Ny325.out.symm] at hr2005; replace hr2005 : Kd.C k76 _ A2005 y325.length y325 := (by rw [hA2005]; exact hr2005); rw [← hy2005, ← hA2005, ← hc2005] at hcut2005; have HR328 := Aside0.mk hr2005; have HC328 := Aside0.mk (show y325.length ≤ c2005 from by rw [hy2005, hc2005]; exact Nat.sub_le_sub_right (Nat.le_trans (by omega) hroom2005) _); clear hr2005 hC2005 hroom2005 hi02005 hsz2005 hc2005; have KY2005 := Aside0.mk hy2005; have KA2005 := Aside0.mk hA2005; clear hy2005 hA2005; have KL2005 := Aside0.mk (show ((wrap64 (x9_1 + 1)) : Int).toNat ≤ t306.length from by omega); have KM2005 := Aside0.mk (show (x9_1 : Int).toNat ≤ ((wrap64 (x9_1 + 1)) : Int).toNat from by omega); replace q2005 := eq_true q2005) | ((with_reducible refine gate_callee (f := 45) rfl ?_); refine goesL_ (some 48) rfl rfl Try.func45 (by kernel_rfl) rfl #[.slice A2005 y325.length c2005] rfl wT ?_; (with_reducible refine (spec_ShowRoutes.calls k1 _ _ y325 t329 t330 _ ?side1 ?side2 A1016.out).mono ?_); (case side1 => repeat (first | exact (by repeat (first | (with_reducible exact HR328.out) | (with_reducible refine Kd.C_alloc ?_ _) | (with_reducible refine Kd.C_drewN ?_ _) | (with_reducible refine Kd.C_drew ?_) | exact HR328.out)) | (with_reducible refine Kd.C_alloc ?_ _) | (with_reducible refine Kd.C_drewN ?_ _) | (with_reducible refine Kd.C_drew ?_))); (case side2 => exact HC328.out); rintro e w2006 ⟨rfl, hb⟩; refine ⟨_, rfl, ?_⟩; have n0_ := Aside0.mk (Kd.R_below (Rh HO_3) hb); have n1_ := Aside0.mk (blk_below (Bh BK322) hb); have n2_ := Aside0.mk (blk_below (Bh BK324) hb); have n3_ := Aside0.mk (Kd.C_below (by repeat (first | (with_reducible exact HR328.out) | (with_reducible refine Kd.C_alloc ?_ _) | (with_reducible refine Kd.C_drewN ?_ _) | (with_reducible refine Kd.C_drew ?_) | exact HR328.out)) hb); have n4_ := Aside0.mk (below_step wB hb); clear HO_3; clear BK322; clear BK324; clear HR328; clear HB; have HO_3 := n0_; have BK322 := n1_; have BK324 := n2_; have HR328 := n3_; have HB := n4_; clear n0_ n1_ n2_ n3_ n4_; (try clear hb); (try clear hb2); (try clear hk); (try clear hi)))
 (try simp only [Act.put, List.setIfInBounds_toArray, List.set_cons_zero, List.set_cons_succ])
 go_cut [59] (fun v59 wc => ∃ (kq : Nat) (x59_1016 : Bool), v59 = .bool x59_1016 ∧ Aside0 (laws_FnLongest.j1 kq t306 t307 t321 x7_1 x8_1 x9_1 x59_1016 t316 t317 t318 t319 t320 ((rd_T76 t306 x9_1).f0.f0) ((rd_T76 t306 x9_1).f0.f1) ((rd_T76 t306 x9_1).f1) ((rd_T76 t306 x9_1).f2) ((rd_T76 t306 x9_1).f3) = some r) ∧ Aside0 (kq ≤ k1) ∧ Aside0 (Kd.R k76 76 wc w.heap.size (fun k_ => k_ ≠ gb322 ∧ k_ ≠ gb324) (.slice (some ad323) t306.length co1005) t306) ∧ Aside0 (wc.heap[gb322]? = some (.cells #[.int .i64 t316, .int .i64 t317, .int .i64 t318, .int .i64 t319, .int .i64 t320] 76 (0, 0))) ∧ Aside0 (wc.heap[gb324]? = some (.cells #[.int .i64 ((rd_T76 t306 x9_1).f0.f0), .int .i64 ((rd_T76 t306 x9_1).f0.f1), .int .i64 ((rd_T76 t306 x9_1).f1), .int .i64 ((rd_T76 t306 x9_1).f2), .int .i64 ((rd_T76 t306 x9_1).f3)] 76 (0, 0))) ∧ Aside0 (Below w.heap.size w wc))
 case first => (
 have H := HC1017.out
 clear HC1017
 by_cases c2007 : t330 = 0
 {
 rw [if_pos c2007] at H
 have c2007b0 : (t330 == 0) = true := beq_iff_eq.mpr c2007
 have c2007b1 : (t330 != 0) = false := bne_eq_false_iff_eq.mpr c2007
 clear c2007
 (first | rw [c2007b0] | (simp only [i64_w, i32_w]; rw [c2007b0]) | skip)
 replace H := Option.bind_eq_some_iff.mp H
 obtain ⟨t331, A20080, H⟩ := H
 replace H : (laws_FnLongest.j1 k1 t306 t307 t321 x7_1 x8_1 x9_1 (!t331) t316 t317 t318 t319 t320 ((rd_T76 t306 x9_1).f0.f0) ((rd_T76 t306 x9_1).f0.f1) ((rd_T76 t306 x9_1).f1) ((rd_T76 t306 x9_1).f2) ((rd_T76 t306 x9_1).f3)) = some r := H
 have A2008 := Aside0.mk A20080
 clear A20080
 have H' := Aside0.mk H
 clear H
 have hnb3001 := NB324_322.out
 have hnc3001 := NB322_324.out
 obtain ⟨⟨hcz3002_0, hcz3002_1, hcz3002_2, hcz3002_3, hcz3002_4⟩, hfz3002_0, hfz3002_1, hfz3002_2, hfz3002_3, hfz3002_4⟩ := cells5 BK324.out
 go_wp2_with (first | (go_at_call 46; (with_reducible refine (spec_PrefixHas.calls k1 ((rd_T76 t306 x9_1).f0.f0) ((rd_T76 t306 x9_1).f0.f1) t307 t331 _ A2008.out).mono ?_); rintro e w3003 ⟨rfl, hb⟩; have n0_ := Aside0.mk (Kd.R_below (Rh HO_3) hb); have n1_ := Aside0.mk (blk_below (Bh BK322) hb); have n2_ := Aside0.mk (blk_below (Bh BK324) hb); have n3_ := Aside0.mk (Kd.C_below (by repeat (first | (with_reducible exact HR328.out) | (with_reducible refine Kd.C_alloc ?_ _) | (with_reducible refine Kd.C_drewN ?_ _) | (with_reducible refine Kd.C_drew ?_) | exact HR328.out)) hb); have n4_ := Aside0.mk (below_step wB hb); clear HO_3; clear BK322; clear BK324; clear HR328; clear HB; have HO_3 := n0_; have BK322 := n1_; have BK324 := n2_; have HR328 := n3_; have HB := n4_; clear n0_ n1_ n2_ n3_ n4_; (try clear hb); (try clear hb2); (try clear hk); (try clear hi)))
 go_meet
 case rel => exact ⟨_, (!t331), (by first | rfl | (simp; done) | (simp [*]; done)), H', ⟨by have := HK1.out; first | omega | exact Nat.le_refl _⟩, ⟨Rh HO_3⟩, ⟨Bh BK322⟩, ⟨Bh BK324⟩, ⟨wB⟩⟩
 }
 {
 rw [if_neg c2007] at H
 have c2007b0 : (t330 == 0) = false := beq_eq_false_iff_ne.mpr c2007
 have c2007b1 : (t330 != 0) = true := bne_iff_ne.mpr c2007
 (first | rw [c2007b0] | (simp only [i64_w, i32_w]; rw [c2007b0]) | skip)
 have H' := Aside0.mk H
 clear H
 go_wp2
 go_meet
 case rel => exact ⟨_, (true), (by first | rfl | (simp; done) | (simp [*]; done)), H', ⟨by have := HK1.out; first | omega | exact Nat.le_refl _⟩, ⟨Rh HO_3⟩, ⟨Bh BK322⟩, ⟨Bh BK324⟩, ⟨wB⟩⟩
 }
 )
 case rest => (
 clear HC1017
 try clear c0
 try clear q0
 try clear c1
 try clear c2
 try clear c2b0
 try clear c2b1
 try clear p2
 try clear q2
 try clear c4
 try clear p323
 try clear q323
 try clear hx323
 try clear c1011
 try clear c1011b0
 try clear c1012
 try clear c1012b0
 try clear c1013
 try clear c1013b0
 try clear c1014
 try clear c1014b0
 try clear c1014b1
 try clear c1015
 try clear c1015b0
 try clear c1015b1
 try clear c2005
 try clear q2005
 try clear c2007
 try clear c2007b0
 try clear c2007b1
 try clear hcz1009_0 hcz1009_1 hcz1009_2 hcz1009_3 hcz1009_4 hfz1009_0 hfz1009_1 hfz1009_2 hfz1009_3 hfz1009_4
 try clear hcz2003_0 hcz2003_1 hcz2003_2 hcz2003_3 hcz2003_4 hfz2003_0 hfz2003_1 hfz2003_2 hfz2003_3 hfz2003_4
 try clear hcz3002_0 hcz3002_1 hcz3002_2 hcz3002_3 hcz3002_4 hfz3002_0 hfz3002_1 hfz3002_2 hfz3002_3 hfz3002_4
 try clear hx323_0
 try clear hx323_1
 try clear hx323_2
 try clear hx323_3
 try clear hx323_4
 try clear p2
 try clear p323
 try clear q02005
 try clear q2005
 try clear q323
 obtain ⟨kq, x59_1016, rfl, HA, HJ1016, HO_3, BK322, BK324, HB⟩ := hcut
 cases kq with
 | zero => exact absurd HA.out (by simp [laws_FnLongest.j1])
 | succ kj1016 => {
 have H := HA.out
 clear HA
 simp only [laws_FnLongest.j1] at H
 by_cases c2009 : x59_1016 = true
 subst c2009
 have H1 : (laws_FnLongest.l0 kj1016 t306 t307 t321 x7_1 x8_1 (wrap64 (x9_1 + 1)) t316 t317 t318 t319 t320) = some r := by rw [if_pos rfl] at H; exact H
 clear H
 have H := H1
 clear H1
 have H' := Aside0.mk H
 clear H
 rotate_left
 replace c2009 := Bool.eq_false_iff.mpr c2009
 subst c2009
 have H1 : (if ((((rd_T76 t306 x9_1).f0.f0) == t316 && (((rd_T76 t306 x9_1).f0.f1) == t317)) && (((rd_T76 t306 x9_1).f1) == t318 && (((rd_T76 t306 x9_1).f2) == t319 && (((rd_T76 t306 x9_1).f3) == t320)))) = true then (if t321 = true then (if ((rd_T76 t306 x9_1).f0.f1) > t317 then (some false) else (if ((rd_T76 t306 x9_1).f0.f1) = t317 then (if ((rd_T76 t306 x9_1).f3) < t320 then (some false) else (laws_FnLongest.l0 kj1016 t306 t307 t321 true true (wrap64 (x9_1 + 1)) t316 t317 t318 t319 t320)) else (laws_FnLongest.l0 kj1016 t306 t307 t321 true true (wrap64 (x9_1 + 1)) t316 t317 t318 t319 t320))) else (some false)) else (if t321 = true then (if ((rd_T76 t306 x9_1).f0.f1) > t317 then (some false) else (if ((rd_T76 t306 x9_1).f0.f1) = t317 then (if ((rd_T76 t306 x9_1).f3) < t320 then (some false) else (laws_FnLongest.l0 kj1016 t306 t307 t321 true x8_1 (wrap64 (x9_1 + 1)) t316 t317 t318 t319 t320)) else (laws_FnLongest.l0 kj1016 t306 t307 t321 true x8_1 (wrap64 (x9_1 + 1)) t316 t317 t318 t319 t320))) else (some false))) = some r := by rw [if_neg (show ¬ (false = true) by decide)] at H; exact H
 clear H
 have H := H1
 clear H1
 by_cases c2010 : ((((rd_T76 t306 x9_1).f0.f0) == t316 && (((rd_T76 t306 x9_1).f0.f1) == t317)) && (((rd_T76 t306 x9_1).f1) == t318 && (((rd_T76 t306 x9_1).f2) == t319 && (((rd_T76 t306 x9_1).f3) == t320)))) = true
 rw [if_pos c2010] at H
 have c2010b0 : ((((rd_T76 t306 x9_1).f0.f0) == t316 && (((rd_T76 t306 x9_1).f0.f1) == t317)) && (((rd_T76 t306 x9_1).f1) == t318 && (((rd_T76 t306 x9_1).f2) == t319 && (((rd_T76 t306 x9_1).f3) == t320)))) = true := c2010
 clear c2010
 by_cases c2011 : t321 = true
 subst c2011
 have H1 : (if ((rd_T76 t306 x9_1).f0.f1) > t317 then (some false) else (if ((rd_T76 t306 x9_1).f0.f1) = t317 then (if ((rd_T76 t306 x9_1).f3) < t320 then (some false) else (laws_FnLongest.l0 kj1016 t306 t307 true true true (wrap64 (x9_1 + 1)) t316 t317 t318 t319 t320)) else (laws_FnLongest.l0 kj1016 t306 t307 true true true (wrap64 (x9_1 + 1)) t316 t317 t318 t319 t320))) = some r := by rw [if_pos rfl] at H; exact H
 clear H
 have H := H1
 clear H1
 by_cases c2012 : ((rd_T76 t306 x9_1).f0.f1) > t317
 rw [if_pos c2012] at H
 have c2012b0 : decide (t317 < ((rd_T76 t306 x9_1).f0.f1)) = true := decide_eq_true c2012
 clear c2012
 obtain rfl := Option.some.inj H
 rotate_left
 rw [if_neg c2012] at H
 have c2012b0 : decide (t317 < ((rd_T76 t306 x9_1).f0.f1)) = false := decide_eq_false c2012
 clear c2012
 by_cases c2013 : ((rd_T76 t306 x9_1).f0.f1) = t317
 rw [if_pos c2013] at H
 have c2013b0 : (((rd_T76 t306 x9_1).f0.f1) == t317) = true := beq_iff_eq.mpr c2013
 have c2013b1 : (((rd_T76 t306 x9_1).f0.f1) != t317) = false := bne_eq_false_iff_eq.mpr c2013
 (try (have c2013ac2010b0 := c2010b0; simp only [c2013b0, Bool.and_true, Bool.true_and] at c2013ac2010b0))
 clear c2013
 by_cases c2014 : ((rd_T76 t306 x9_1).f3) < t320
 rw [if_pos c2014] at H
 have c2014b0 : decide (((rd_T76 t306 x9_1).f3) < t320) = true := decide_eq_true c2014
 clear c2014
 obtain rfl := Option.some.inj H
 rotate_left
 rw [if_neg c2014] at H
 have c2014b0 : decide (((rd_T76 t306 x9_1).f3) < t320) = false := decide_eq_false c2014
 clear c2014
 have H' := Aside0.mk H
 clear H
 rotate_left
 rw [if_neg c2013] at H
 have c2013b0 : (((rd_T76 t306 x9_1).f0.f1) == t317) = false := beq_eq_false_iff_ne.mpr c2013
 have c2013b1 : (((rd_T76 t306 x9_1).f0.f1) != t317) = true := bne_iff_ne.mpr c2013
 exact absurd c2010b0 (by simp [c2013b0])
 replace c2011 := Bool.eq_false_iff.mpr c2011
 subst c2011
 have H1 : (some false) = some r := by rw [if_neg (show ¬ (false = true) by decide)] at H; exact H
 clear H
 have H := H1
 clear H1
 obtain rfl := Option.some.inj H
 rotate_left
 rw [if_neg c2010] at H
 have c2010b0 : ((((rd_T76 t306 x9_1).f0.f0) == t316 && (((rd_T76 t306 x9_1).f0.f1) == t317)) && (((rd_T76 t306 x9_1).f1) == t318 && (((rd_T76 t306 x9_1).f2) == t319 && (((rd_T76 t306 x9_1).f3) == t320)))) = false := by simpa using c2010
 clear c2010
 by_cases c2015 : t321 = true
 subst c2015
 have H1 : (if ((rd_T76 t306 x9_1).f0.f1) > t317 then (some false) else (if ((rd_T76 t306 x9_1).f0.f1) = t317 then (if ((rd_T76 t306 x9_1).f3) < t320 then (some false) else (laws_FnLongest.l0 kj1016 t306 t307 true true x8_1 (wrap64 (x9_1 + 1)) t316 t317 t318 t319 t320)) else (laws_FnLongest.l0 kj1016 t306 t307 true true x8_1 (wrap64 (x9_1 + 1)) t316 t317 t318 t319 t320))) = some r := by rw [if_pos rfl] at H; exact H
 clear H
 have H := H1
 clear H1
 by_cases c2016 : ((rd_T76 t306 x9_1).f0.f1) > t317
 rw [if_pos c2016] at H
 have c2016b0 : decide (t317 < ((rd_T76 t306 x9_1).f0.f1)) = true := decide_eq_true c2016
 clear c2016
 obtain rfl := Option.some.inj H
 rotate_left
 rw [if_neg c2016] at H
 have c2016b0 : decide (t317 < ((rd_T76 t306 x9_1).f0.f1)) = false := decide_eq_false c2016
 clear c2016
 by_cases c2017 : ((rd_T76 t306 x9_1).f0.f1) = t317
 rw [if_pos c2017] at H
 have c2017b0 : (((rd_T76 t306 x9_1).f0.f1) == t317) = true := beq_iff_eq.mpr c2017
 have c2017b1 : (((rd_T76 t306 x9_1).f0.f1) != t317) = false := bne_eq_false_iff_eq.mpr c2017
 (try (have c2017ac2010b0 := c2010b0; simp only [c2017b0, Bool.and_true, Bool.true_and] at c2017ac2010b0))
 clear c2017
 by_cases c2018 : ((rd_T76 t306 x9_1).f3) < t320
 rw [if_pos c2018] at H
 have c2018b0 : decide (((rd_T76 t306 x9_1).f3) < t320) = true := decide_eq_true c2018
 clear c2018
 obtain rfl := Option.some.inj H
 rotate_left
 rw [if_neg c2018] at H
 have c2018b0 : decide (((rd_T76 t306 x9_1).f3) < t320) = false := decide_eq_false c2018
 clear c2018
 have H' := Aside0.mk H
 clear H
 rotate_left
 rw [if_neg c2017] at H
 have c2017b0 : (((rd_T76 t306 x9_1).f0.f1) == t317) = false := beq_eq_false_iff_ne.mpr c2017
 have c2017b1 : (((rd_T76 t306 x9_1).f0.f1) != t317) = true := bne_iff_ne.mpr c2017
 have H' := Aside0.mk H
 clear H
 rotate_left
 replace c2015 := Bool.eq_false_iff.mpr c2015
 subst c2015
 have H1 : (some false) = some r := by rw [if_neg (show ¬ (false = true) by decide)] at H; exact H
 clear H
 have H := H1
 clear H1
 obtain rfl := Option.some.inj H
 rotate_left
 {
 go_wp2
 go_roundg kj1016
 case measure => have := HK1.out; have := HJ1016.out; omega
 case rel => exact ⟨(x7_1), (x8_1), (wrap64 (x9_1 + 1)), (by first | rfl | (simp; done) | (simp [*]; done)), (by first | rfl | (simp; done) | (simp [*]; done)), (by first | rfl | (simp; done) | (simp [*]; done)), H', ⟨by have := HK1.out; have := HJ1016.out; omega⟩, ⟨Kd.R_mono (Rh HO_3) (fun _ hk => hk.1)⟩, ⟨Bh BK322⟩, ⟨wB⟩⟩
 }
 all_goals (
 have hnb3001 := NB324_322.out
 have hnc3001 := NB322_324.out
 obtain ⟨⟨hcz3002_0, hcz3002_1, hcz3002_2, hcz3002_3, hcz3002_4⟩, hfz3002_0, hfz3002_1, hfz3002_2, hfz3002_3, hfz3002_4⟩ := cells5 BK324.out
 obtain ⟨⟨hcz3003_0, hcz3003_1, hcz3003_2, hcz3003_3, hcz3003_4⟩, hfz3003_0, hfz3003_1, hfz3003_2, hfz3003_3, hfz3003_4⟩ := cells5 BK322.out
 go_wp2
 )
 iterate 2 (
 focus (
 go_ret
 exact ⟨by first | rfl | (simp [errW_none, errW_some] <;> rfl) | (simp [*, errW_none, errW_some] <;> rfl), wB⟩
 )
 )
 {
 go_roundg kj1016
 case measure => have := HK1.out; have := HJ1016.out; omega
 case rel => exact ⟨(true), (true), (wrap64 (x9_1 + 1)), (by first | rfl | (simp; done) | (simp [*]; done)), (by first | rfl | (simp; done) | (simp [*]; done)), (by first | rfl | (simp; done) | (simp [*]; done)), H', ⟨by have := HK1.out; have := HJ1016.out; omega⟩, ⟨Kd.R_mono (Rh HO_3) (fun _ hk => hk.1)⟩, ⟨Bh BK322⟩, ⟨wB⟩⟩
 }
 iterate 3 (
 focus (
 go_ret
 exact ⟨by first | rfl | (simp [errW_none, errW_some] <;> rfl) | (simp [*, errW_none, errW_some] <;> rfl), wB⟩
 )
 )
 iterate 2 (
 focus (
 go_roundg kj1016
 case measure => have := HK1.out; have := HJ1016.out; omega
 case rel => exact ⟨(true), (x8_1), (wrap64 (x9_1 + 1)), (by first | rfl | (simp; done) | (simp [*]; done)), (by first | rfl | (simp; done) | (simp [*]; done)), (by first | rfl | (simp; done) | (simp [*]; done)), H', ⟨by have := HK1.out; have := HJ1016.out; omega⟩, ⟨Kd.R_mono (Rh HO_3) (fun _ hk => hk.1)⟩, ⟨Bh BK322⟩, ⟨wB⟩⟩
 )
 )
 {
 go_ret
 exact ⟨by first | rfl | (simp [errW_none, errW_some] <;> rfl) | (simp [*, errW_none, errW_some] <;> rfl), wB⟩
 }
 }
 )
 }
 {
 rw [if_neg c1015] at H
 exact absurd H (by simp)
 }
 }
 {
 rw [if_neg c1014] at H
 exact absurd H (by simp)
 }
 }
 {
 rw [if_neg c1012] at H
 exact absurd H (by simp)
 }
 }
 {
 rw [if_neg c1011] at H
 have c1011b0 : decide (x9_1 < (t306.length : Int)) = false := decide_eq_false c1011
 clear c1011
 have HC1017 := Aside0.mk H
 clear H
 go_upto_region 18 with (fail)
 go_cut [99] (fun v99 wc => ∃ (kq : Nat) (x99_1016 : Bool), v99 = .bool x99_1016 ∧ Aside0 (laws_FnLongest.j2 kq t306 t307 t321 x99_1016 t316 t317 t318 t319 t320 = some r) ∧ Aside0 (kq ≤ k1) ∧ Aside0 (Kd.R k76 76 wc w.heap.size (fun k_ => k_ ≠ gb322) (.slice Ao1005 t306.length co1005) t306) ∧ Aside0 (wc.heap[gb322]? = some (.cells #[.int .i64 t316, .int .i64 t317, .int .i64 t318, .int .i64 t319, .int .i64 t320] 76 (0, 0))) ∧ Aside0 (Below w.heap.size w wc))
 case first => (
 have H := HC1017.out
 clear HC1017
 by_cases c2001 : (t321 != x7_1) = true
 {
 rw [if_pos c2001] at H
 have c2001b0 : (t321 != x7_1) = true := c2001
 (try (have c2001b1 : decide (t321 = x7_1) = false := by simpa using c2001))
 (try (have c2001b2 : (t321 == x7_1) = false := by simpa using c2001))
 (try (have c2001b3 : ¬ (t321 = x7_1) := by simpa using c2001))
 clear c2001
 (first | rw [c2001b0] | (simp only [i64_w, i32_w]; rw [c2001b0]) | skip)
 have H' := Aside0.mk H
 clear H
 go_wp2
 go_meet
 case rel => exact ⟨_, (true), (by first | rfl | (simp; done) | (simp [*]; done)), H', ⟨by have := HK1.out; first | omega | exact Nat.le_refl _⟩, ⟨Rh HO_3⟩, ⟨Bh BK322⟩, ⟨wB⟩⟩
 }
 {
 rw [if_neg c2001] at H
 have c2001b0 : (t321 != x7_1) = false := by simpa using c2001
 (try (have c2001b1 : decide (t321 = x7_1) = true := by simpa using c2001))
 (try (have c2001b2 : (t321 == x7_1) = true := by simpa using c2001))
 clear c2001
 (first | rw [c2001b0] | (simp only [i64_w, i32_w]; rw [c2001b0]) | skip)
 by_cases c2002 : t321 = true
 {
 subst c2002
 have H1 : (laws_FnLongest.j2 k1 t306 t307 true (!x8_1) t316 t317 t318 t319 t320) = some r := by rw [if_pos rfl] at H; exact H
 clear H
 have H := H1
 clear H1
 have H' := Aside0.mk H
 clear H
 go_wp2
 go_meet
 case rel => exact ⟨_, (!x8_1), (by first | rfl | (simp; done) | (simp [*]; done)), H', ⟨by have := HK1.out; first | omega | exact Nat.le_refl _⟩, ⟨Rh HO_3⟩, ⟨Bh BK322⟩, ⟨wB⟩⟩
 }
 {
 replace c2002 := Bool.eq_false_iff.mpr c2002
 subst c2002
 have H1 : (laws_FnLongest.j2 k1 t306 t307 false false t316 t317 t318 t319 t320) = some r := by rw [if_neg (show ¬ (false = true) by decide)] at H; exact H
 clear H
 have H := H1
 clear H1
 have H' := Aside0.mk H
 clear H
 go_wp2
 go_meet
 case rel => exact ⟨_, (false), (by first | rfl | (simp; done) | (simp [*]; done)), H', ⟨by have := HK1.out; first | omega | exact Nat.le_refl _⟩, ⟨Rh HO_3⟩, ⟨Bh BK322⟩, ⟨wB⟩⟩
 }
 }
 )
 case rest => (
 clear HC1017
 try clear c0
 try clear q0
 try clear c1
 try clear c2
 try clear c2b0
 try clear c2b1
 try clear p2
 try clear q2
 try clear c4
 try clear p323
 try clear q323
 try clear hx323
 try clear c1011
 try clear c1011b0
 try clear c1012
 try clear c1012b0
 try clear c1013
 try clear c1013b0
 try clear c1014
 try clear c1014b0
 try clear c1014b1
 try clear c1015
 try clear c1015b0
 try clear c1015b1
 try clear c2001
 try clear c2001b0
 try clear c2001b1
 try clear c2001b2
 try clear c2002
 try clear hcz1009_0 hcz1009_1 hcz1009_2 hcz1009_3 hcz1009_4 hfz1009_0 hfz1009_1 hfz1009_2 hfz1009_3 hfz1009_4
 try clear hcz2003_0 hcz2003_1 hcz2003_2 hcz2003_3 hcz2003_4 hfz2003_0 hfz2003_1 hfz2003_2 hfz2003_3 hfz2003_4
 try clear hcz3002_0 hcz3002_1 hcz3002_2 hcz3002_3 hcz3002_4 hfz3002_0 hfz3002_1 hfz3002_2 hfz3002_3 hfz3002_4
 try clear hcz3003_0 hcz3003_1 hcz3003_2 hcz3003_3 hcz3003_4 hfz3003_0 hfz3003_1 hfz3003_2 hfz3003_3 hfz3003_4
 try clear hx323_0
 try clear hx323_1
 try clear hx323_2
 try clear hx323_3
 try clear hx323_4
 try clear p2
 try clear p323
 try clear q0
 try clear q02005
 try clear q2
 try clear q2005
 try clear q323
 obtain ⟨kq, x99_1016, rfl, HA, HJ1016, HO_3, BK322, HB⟩ := hcut
 cases kq with
 | zero => exact absurd HA.out (by simp [laws_FnLongest.j2])
 | succ kj1016 => {
 have H := HA.out
 clear HA
 simp only [laws_FnLongest.j2] at H
 by_cases c2003 : x99_1016 = true
 subst c2003
 have H1 : (some false) = some r := by rw [if_pos rfl] at H; exact H
 clear H
 have H := H1
 clear H1
 obtain rfl := Option.some.inj H
 rotate_left
 replace c2003 := Bool.eq_false_iff.mpr c2003
 subst c2003
 have H1 : (if t321 = true then ((some (([] : List (S76)) : List (S76))).bind fun y333 => (if y333.length + t306.length < 3518437208883 then ((some (y333 ++ t306 : List (S76))).bind fun y336 => ((some (([(⟨(⟨t316, t317⟩ : S74), 167772177, t319, t320⟩ : S76)] : List (S76)) : List (S76))).bind fun y339 => (if y336.length + y339.length < 3518437208883 then ((impl_FindRoute.f kj1016 (y336 ++ y339) t307).bind fun bt345 => (if bt345.2.2.2.2.2 = true then (some ((bt345.1 == t316 && (bt345.2.1 == t317)) && (bt345.2.2.1 == t318 && (bt345.2.2.2.1 == t319 && (bt345.2.2.2.2.1 == t320))))) else (some false))) else (none)))) else (none))) else (some ((t316 == 0 && (t317 == 0)) && (t318 == 0 && (t319 == 0 && (t320 == 0)))))) = some r := by rw [if_neg (show ¬ (false = true) by decide)] at H; exact H
 clear H
 have H := H1
 clear H1
 by_cases c2004 : t321 = true
 subst c2004
 have H1 : ((some (([] : List (S76)) : List (S76))).bind fun y333 => (if y333.length + t306.length < 3518437208883 then ((some (y333 ++ t306 : List (S76))).bind fun y336 => ((some (([(⟨(⟨t316, t317⟩ : S74), 167772177, t319, t320⟩ : S76)] : List (S76)) : List (S76))).bind fun y339 => (if y336.length + y339.length < 3518437208883 then ((impl_FindRoute.f kj1016 (y336 ++ y339) t307).bind fun bt345 => (if bt345.2.2.2.2.2 = true then (some ((bt345.1 == t316 && (bt345.2.1 == t317)) && (bt345.2.2.1 == t318 && (bt345.2.2.2.1 == t319 && (bt345.2.2.2.2.1 == t320))))) else (some false))) else (none)))) else (none))) = some r := by rw [if_pos rfl] at H; exact H
 clear H
 have H := H1
 clear H1
 obtain ⟨y333, hy333⟩ : ∃ y_ : List (S76), y_ = (([] : List (S76))) := ⟨_, rfl⟩
 replace H : (if y333.length + t306.length < 3518437208883 then ((some (y333 ++ t306 : List (S76))).bind fun y336 => ((some (([(⟨(⟨t316, t317⟩ : S74), 167772177, t319, t320⟩ : S76)] : List (S76)) : List (S76))).bind fun y339 => (if y336.length + y339.length < 3518437208883 then ((impl_FindRoute.f kj1016 (y336 ++ y339) t307).bind fun bt345 => (if bt345.2.2.2.2.2 = true then (some ((bt345.1 == t316 && (bt345.2.1 == t317)) && (bt345.2.2.1 == t318 && (bt345.2.2.2.1 == t319 && (bt345.2.2.2.2.1 == t320))))) else (some false))) else (none)))) else (none)) = some r := by first | (rw [hy333]; with_reducible exact H) | (have H2_ := (Option.bind_some _ _).symm.trans H; rw [hy333]; with_reducible exact H2_) | (have H2_ := (Option.bind_some _ _).symm.trans H; with_reducible exact H2_) | with_reducible exact H | (rw [hy333]; exact H) | exact H
 have Ny333 := Aside0.mk hy333
 clear hy333
 by_cases c2005 : y333.length + t306.length < 3518437208883
 rw [if_pos c2005] at H
 have LMc2005 := Aside0.mk c2005
 clear c2005
 obtain ⟨y336, hy336⟩ : ∃ y_ : List (S76), y_ = (y333 ++ t306) := ⟨_, rfl⟩
 replace H : ((some (([(⟨(⟨t316, t317⟩ : S74), 167772177, t319, t320⟩ : S76)] : List (S76)) : List (S76))).bind fun y339 => (if y336.length + y339.length < 3518437208883 then ((impl_FindRoute.f kj1016 (y336 ++ y339) t307).bind fun bt345 => (if bt345.2.2.2.2.2 = true then (some ((bt345.1 == t316 && (bt345.2.1 == t317)) && (bt345.2.2.1 == t318 && (bt345.2.2.2.1 == t319 && (bt345.2.2.2.2.1 == t320))))) else (some false))) else (none))) = some r := by first | (rw [hy336]; with_reducible exact H) | (have H2_ := (Option.bind_some _ _).symm.trans H; rw [hy336]; with_reducible exact H2_) | (have H2_ := (Option.bind_some _ _).symm.trans H; with_reducible exact H2_) | with_reducible exact H | (rw [hy336]; exact H) | exact H
 have Ny336 := Aside0.mk hy336
 clear hy336
 obtain ⟨y339, hy339⟩ : ∃ y_ : List (S76), y_ = (([(⟨(⟨t316, t317⟩ : S74), 167772177, t319, t320⟩ : S76)] : List (S76))) := ⟨_, rfl⟩
 replace H : (if y336.length + y339.length < 3518437208883 then ((impl_FindRoute.f kj1016 (y336 ++ y339) t307).bind fun bt345 => (if bt345.2.2.2.2.2 = true then (some ((bt345.1 == t316 && (bt345.2.1 == t317)) && (bt345.2.2.1 == t318 && (bt345.2.2.2.1 == t319 && (bt345.2.2.2.2.1 == t320))))) else (some false))) else (none)) = some r := by first | (rw [hy339]; with_reducible exact H) | (have H2_ := (Option.bind_some _ _).symm.trans H; rw [hy339]; with_reducible exact H2_) | (have H2_ := (Option.bind_some _ _).symm.trans H; with_reducible exact H2_) | with_reducible exact H | (rw [hy339]; exact H) | exact H
 have Ny339 := Aside0.mk hy339
 clear hy339
 by_cases c2006 : y336.length + y339.length < 3518437208883
 rw [if_pos c2006] at H
 have LMc2006 := Aside0.mk c2006
 clear c2006
 obtain ⟨y342, hy342⟩ : ∃ y_ : List (S76), y_ = (y336 ++ y339) := ⟨_, rfl⟩
 replace H : ((impl_FindRoute.f kj1016 y342 t307).bind fun bt345 => (if bt345.2.2.2.2.2 = true then (some ((bt345.1 == t316 && (bt345.2.1 == t317)) && (bt345.2.2.1 == t318 && (bt345.2.2.2.1 == t319 && (bt345.2.2.2.2.1 == t320))))) else (some false))) = some r := by first | (rw [hy342]; with_reducible exact H) | (have H2_ := (Option.bind_some _ _).symm.trans H; rw [hy342]; with_reducible exact H2_) | (have H2_ := (Option.bind_some _ _).symm.trans H; with_reducible exact H2_) | with_reducible exact H | (rw [hy342]; exact H) | exact H
 have Ny342 := Aside0.mk hy342
 clear hy342
 replace H := Option.bind_eq_some_iff.mp H
 obtain ⟨⟨t345, t346, t347, t348, t349, t350⟩, A20070, H⟩ := H
 replace H : (if t350 = true then (some ((t345 == t316 && (t346 == t317)) && (t347 == t318 && (t348 == t319 && (t349 == t320))))) else (some false)) = some r := H
 have A2007 := Aside0.mk A20070
 clear A20070
 by_cases c2008 : t350 = true
 subst c2008
 have H1 : (some ((t345 == t316 && (t346 == t317)) && (t347 == t318 && (t348 == t319 && (t349 == t320))))) = some r := by rw [if_pos rfl] at H; exact H
 clear H
 have H := H1
 clear H1
 obtain rfl := Option.some.inj H
 have bq1_ : True := trivial
 rotate_left
 replace c2008 := Bool.eq_false_iff.mpr c2008
 subst c2008
 have H1 : (some false) = some r := by rw [if_neg (show ¬ (false = true) by decide)] at H; exact H
 clear H
 have H := H1
 clear H1
 obtain rfl := Option.some.inj H
 rotate_left
 rw [if_neg c2006] at H
 exact absurd H (by simp)
 rw [if_neg c2005] at H
 exact absurd H (by simp)
 replace c2004 := Bool.eq_false_iff.mpr c2004
 subst c2004
 have H1 : (some ((t316 == 0 && (t317 == 0)) && (t318 == 0 && (t319 == 0 && (t320 == 0))))) = some r := by rw [if_neg (show ¬ (false = true) by decide)] at H; exact H
 clear H
 have H := H1
 clear H1
 obtain rfl := Option.some.inj H
 rotate_left
 {
 go_wp2
 go_ret
 exact ⟨by first | rfl | (simp [errW_none, errW_some] <;> rfl) | (simp [*, errW_none, errW_some] <;> rfl), wB⟩
 }
 all_goals (
 obtain ⟨⟨hcz3001_0, hcz3001_1, hcz3001_2, hcz3001_3, hcz3001_4⟩, hfz3001_0, hfz3001_1, hfz3001_2, hfz3001_3, hfz3001_4⟩ := cells5 BK322.out
 )
 iterate 2 (
 focus (
 try go_wp2_with (first | ((with_reducible refine gate_dst (N := 13) rfl ?_); refine box_event ?hg (N := 13) ?hd (cs := #[.int .i64 0, .int .i64 0, .int .i64 0, .int .i64 0, .int .i64 0]) (t := 76) ?hr ?_; (case hd => rfl); (case hg => rfl); (case hr => first | (go_simp; done) | (go_simp; rfl)); intro gb332 hg w3002 hbox hb; have n0_ := Aside0.mk (Kd.R_below (Kd.R_elderB (Rh HO_3) gb332 (Nat.le_of_eq hg.symm)) hb); have n1_ := Aside0.mk (blk_below (Bh BK322) hb); have n2_ := Aside0.mk (below_step wB hb); have n3_ := Aside0.mk (hbox); have n4_ := Aside0.mk ((by rw [hg]; exact (below_size wB) : w.heap.size ≤ gb332)); have n5_ := Aside0.mk ((by rw [hg]; exact (below_size wB) : w.heap.size ≤ gb332)); have n6_ := Aside0.mk ((by rw [hg]; exact Nat.ne_of_lt (blk_lt (Bh BK322)) : gb322 ≠ gb332)); have n7_ := Aside0.mk ((by rw [hg]; exact Nat.ne_of_gt (blk_lt (Bh BK322)) : gb332 ≠ gb322)); clear HO_3; clear BK322; clear HB; have HO_3 := n0_; have BK322 := n1_; have HB := n2_; have BK332 := n3_; have GW332 := n4_; have GE332 := n5_; have NB322_332 := n6_; have NB332_322 := n7_; clear n0_ n1_ n2_ n3_ n4_ n5_ n6_ n7_; clear hb hbox hg; have hnb3003 := NB332_322.out; have hnc3003 := NB322_332.out; obtain ⟨⟨hcz3004_0, hcz3004_1, hcz3004_2, hcz3004_3, hcz3004_4⟩, hfz3004_0, hfz3004_1, hfz3004_2, hfz3004_3, hfz3004_4⟩ := cells5 BK332.out) | ((with_reducible refine gate_store (t := 76) (p := 13) rfl ?_); (try (rw [drewN_self w3002]; generalize hq_ : World.drewN w3002 _ = w3002; have n0_ := Aside0.mk (Kd.R_at hq_ HO_3.out); have n1_ := Aside0.mk (blk_at hq_ BK322.out); have n2_ := Aside0.mk (blk_at hq_ BK332.out); have n3_ := Aside0.mk (below_at hq_ HB.out); clear hq_ HO_3 BK322 BK332 HB; have HO_3 := n0_; have BK322 := n1_; have BK332 := n2_; have HB := n3_; clear n0_ n1_ n2_ n3_; (try (obtain ⟨⟨hcyBK322_0, hcyBK322_1, hcyBK322_2, hcyBK322_3, hcyBK322_4⟩, hfyBK322_0, hfyBK322_1, hfyBK322_2, hfyBK322_3, hfyBK322_4⟩ := cells5 BK322.out)); (try (obtain ⟨⟨hcyBK332_0, hcyBK332_1, hcyBK332_2, hcyBK332_3, hcyBK332_4⟩, hfyBK332_0, hfyBK332_1, hfyBK332_2, hfyBK332_3, hfyBK332_4⟩ := cells5 BK332.out)))); refine store_event (t := 76) (p := 13) (v := ?_) (w1 := (((((w3002.setCell ⟨gb332, 0, none⟩ (.int .i64 t316)).setCell ⟨gb332, 1, none⟩ (.int .i64 t317)).setCell ⟨gb332, 2, none⟩ (.int .i64 t318)).setCell ⟨gb332, 3, none⟩ (.int .i64 t319)).setCell ⟨gb332, 4, none⟩ (.int .i64 t320))) ?hg ?ho ?hn ?hr ?_; (case ho => rfl); (case hg => rfl); (case hn => rfl); (case hr => first | (go_simp; done) | (go_simp; rfl)); intro w3005 hw; have n0_ : Aside0 (Kd.R k76 76 w3005 w.heap.size (fun k_ => k_ ≠ gb322 ∧ k_ ≠ gb332) (.slice Ao1005 t306.length co1005) t306) := ⟨(by rw [hw]; exact (by (with_reducible repeat (first | apply Kd.R_alloc | apply Kd.R_drewN | apply Kd.R_drew)); exact Kd.R_mono (Kd.R_far (p := ⟨gb332, 4, none⟩) (Kd.R_far (p := ⟨gb332, 3, none⟩) (Kd.R_far (p := ⟨gb332, 2, none⟩) (Kd.R_far (p := ⟨gb332, 1, none⟩) (Kd.R_far (p := ⟨gb332, 0, none⟩) (Kd.R_mono HO_3.out (fun k_ hk => (⟨hk, hk.2⟩ : _ ∧ k_ ≠ gb332))) (fun _ hk => hk.2) (.int .i64 t316)) (fun _ hk => hk.2) (.int .i64 t317)) (fun _ hk => hk.2) (.int .i64 t318)) (fun _ hk => hk.2) (.int .i64 t319)) (fun _ hk => hk.2) (.int .i64 t320)) (fun _ hk => ⟨hk.1.1, hk.1.2⟩)))⟩; have n1_ : Aside0 (w3005.heap[gb322]? = some (.cells #[.int .i64 t316, .int .i64 t317, .int .i64 t318, .int .i64 t319, .int .i64 t320] 76 (0, 0))) := ⟨(by rw [hw]; exact (by (with_reducible repeat (first | refine blk_drewN ?_ _ | refine blk_drew ?_ | refine blk_alloc ?_ _)); refine blk_far ?_ NB322_332.out _; (with_reducible repeat (first | refine blk_drewN ?_ _ | refine blk_drew ?_ | refine blk_alloc ?_ _)); refine blk_far ?_ NB322_332.out _; (with_reducible repeat (first | refine blk_drewN ?_ _ | refine blk_drew ?_ | refine blk_alloc ?_ _)); refine blk_far ?_ NB322_332.out _; (with_reducible repeat (first | refine blk_drewN ?_ _ | refine blk_drew ?_ | refine blk_alloc ?_ _)); refine blk_far ?_ NB322_332.out _; (with_reducible repeat (first | refine blk_drewN ?_ _ | refine blk_drew ?_ | refine blk_alloc ?_ _)); refine blk_far ?_ NB322_332.out _; (with_reducible repeat (first | refine blk_drewN ?_ _ | refine blk_drew ?_ | refine blk_alloc ?_ _)); exact BK322.out))⟩; have n2_ : Aside0 (w3005.heap[gb332]? = some (.cells #[.int .i64 t316, .int .i64 t317, .int .i64 t318, .int .i64 t319, .int .i64 t320] 76 (0, 0))) := ⟨(by rw [hw]; exact (by (with_reducible repeat (first | refine blk_drewN ?_ _ | refine blk_drew ?_ | refine blk_alloc ?_ _)); refine blk_put (cs := #[.int .i64 t316, .int .i64 t317, .int .i64 t318, .int .i64 t319, .int .i64 0]) ?_ 4 _ rfl; (with_reducible repeat (first | refine blk_drewN ?_ _ | refine blk_drew ?_ | refine blk_alloc ?_ _)); refine blk_put (cs := #[.int .i64 t316, .int .i64 t317, .int .i64 t318, .int .i64 0, .int .i64 0]) ?_ 3 _ rfl; (with_reducible repeat (first | refine blk_drewN ?_ _ | refine blk_drew ?_ | refine blk_alloc ?_ _)); refine blk_put (cs := #[.int .i64 t316, .int .i64 t317, .int .i64 0, .int .i64 0, .int .i64 0]) ?_ 2 _ rfl; (with_reducible repeat (first | refine blk_drewN ?_ _ | refine blk_drew ?_ | refine blk_alloc ?_ _)); refine blk_put (cs := #[.int .i64 t316, .int .i64 0, .int .i64 0, .int .i64 0, .int .i64 0]) ?_ 1 _ rfl; (with_reducible repeat (first | refine blk_drewN ?_ _ | refine blk_drew ?_ | refine blk_alloc ?_ _)); refine blk_put (cs := #[.int .i64 0, .int .i64 0, .int .i64 0, .int .i64 0, .int .i64 0]) ?_ 0 _ rfl; (with_reducible repeat (first | refine blk_drewN ?_ _ | refine blk_drew ?_ | refine blk_alloc ?_ _)); exact BK332.out))⟩; have n3_ : Aside0 (Below w.heap.size w w3005) := ⟨(by rw [hw]; exact wB)⟩; clear hw; clear HO_3; clear BK322; clear BK332; clear HB; have HO_3 := n0_; have BK322 := n1_; have BK332 := n2_; have HB := n3_; clear n0_ n1_ n2_ n3_; obtain ⟨⟨hcz3006_0, hcz3006_1, hcz3006_2, hcz3006_3, hcz3006_4⟩, hfz3006_0, hfz3006_1, hfz3006_2, hfz3006_3, hfz3006_4⟩ := cells5 BK332.out))
 have n0_ : Aside0 (Kd.R k76 76 (w3005.setCell ⟨gb332, 2, none⟩ (.int .i64 167772177)) w.heap.size (fun k_ => k_ ≠ gb322 ∧ k_ ≠ gb332) (.slice Ao1005 t306.length co1005) t306) := ⟨by (with_reducible repeat (first | apply Kd.R_alloc | apply Kd.R_drewN | apply Kd.R_drew)); exact Kd.R_mono (Kd.R_far (p := ⟨gb332, 2, none⟩) (Kd.R_mono HO_3.out (fun k_ hk => (⟨hk, hk.2⟩ : _ ∧ k_ ≠ gb332))) (fun _ hk => hk.2) (.int .i64 167772177)) (fun _ hk => ⟨hk.1.1, hk.1.2⟩)⟩
 have n1_ : Aside0 ((w3005.setCell ⟨gb332, 2, none⟩ (.int .i64 167772177)).heap[gb322]? = some (.cells #[.int .i64 t316, .int .i64 t317, .int .i64 t318, .int .i64 t319, .int .i64 t320] 76 (0, 0))) := ⟨by (with_reducible repeat (first | refine blk_drewN ?_ _ | refine blk_drew ?_ | refine blk_alloc ?_ _)); refine blk_far ?_ NB322_332.out _; (with_reducible repeat (first | refine blk_drewN ?_ _ | refine blk_drew ?_ | refine blk_alloc ?_ _)); exact BK322.out⟩
 have n2_ : Aside0 ((w3005.setCell ⟨gb332, 2, none⟩ (.int .i64 167772177)).heap[gb332]? = some (.cells #[.int .i64 t316, .int .i64 t317, .int .i64 167772177, .int .i64 t319, .int .i64 t320] 76 (0, 0))) := ⟨by (with_reducible repeat (first | refine blk_drewN ?_ _ | refine blk_drew ?_ | refine blk_alloc ?_ _)); refine blk_put (cs := #[.int .i64 t316, .int .i64 t317, .int .i64 t318, .int .i64 t319, .int .i64 t320]) ?_ 2 _ rfl; (with_reducible repeat (first | refine blk_drewN ?_ _ | refine blk_drew ?_ | refine blk_alloc ?_ _)); exact BK332.out⟩
 have n3_ : Aside0 (Below w.heap.size w (w3005.setCell ⟨gb332, 2, none⟩ (.int .i64 167772177))) := ⟨wB⟩
 (try clear HO_3)
 (try clear BK322)
 (try clear BK332)
 (try clear HB)
 generalize (w3005.setCell ⟨gb332, 2, none⟩ (.int .i64 167772177)) = w3007 at n0_ n1_ n2_ n3_ ⊢
 have HO_3 := n0_
 have BK322 := n1_
 have BK332 := n2_
 have HB := n3_
 clear n0_ n1_ n2_ n3_
 have n0_ := Aside0.mk (Kd.R_drew HO_3.out)
 have n1_ := Aside0.mk (blk_drew BK322.out)
 have n2_ := Aside0.mk (blk_drew BK332.out)
 have n3_ := Aside0.mk (below_drew1 HB.out)
 clear HO_3
 clear BK322
 clear BK332
 clear HB
 have HO_3 := n0_
 have BK322 := n1_
 have BK332 := n2_
 have HB := n3_
 clear n0_ n1_ n2_ n3_
 refine start_ (n := 14) (S := fun w' => w'.cell? ⟨gb332, 0, none⟩ = some (.int .i64 t316) ∧ w'.cell? ⟨gb332, 1, none⟩ = some (.int .i64 t317) ∧ w'.cell? ⟨gb332, 2, none⟩ = some (.int .i64 167772177) ∧ w'.cell? ⟨gb332, 3, none⟩ = some (.int .i64 t319) ∧ w'.cell? ⟨gb332, 4, none⟩ = some (.int .i64 t320)) (ds := []) #[false, false, false, false, false, false, false, false, false, false, false, false, false, false] (by kernel_rfl) rfl rfl ⟨(blk_cell BK332.out 0).trans rfl, (blk_cell BK332.out 1).trans rfl, (blk_cell BK332.out 2).trans rfl, (blk_cell BK332.out 3).trans rfl, (blk_cell BK332.out 4).trans rfl⟩ (fun hHeld => ?_); refine with_tabW laws_FnLongest.tab24 laws_FnLongest.bits24 (fun HT_ HW_ => ?_)
 generalize w3007.drew = w3008 at HO_3 BK322 BK332 HB hHeld ⊢
 refine pure_ (i := 1) (N := some 109) (v := ?_) (a' := ?_) #[false, true, false, false, false, false, false, false, false, false, false, false, false, false] rfl rfl (any_of HT_.out (by kernel_rfl)) (fun _ _ _ h => h) (Or.inl ⟨by rfl, ?_⟩) ?_ ?_
 rotate_left
 {
 intro w'
 go_simp
 with_reducible rfl
 }
 rotate_left
 {
 simp only [Act.put, List.setIfInBounds_toArray, List.set_cons_zero, List.set_cons_succ, i64_w, i32_w]
 rfl
 }
 refine pure_ (i := 6) (N := some 114) (v := ?_) (a' := ?_) #[false, true, false, false, false, false, true, false, false, false, false, false, false, false] rfl rfl (any_of HT_.out (by kernel_rfl)) (fun _ _ _ h => h) (Or.inl ⟨by rfl, ?_⟩) ?_ ?_
 rotate_left
 {
 intro w'
 go_simp
 with_reducible rfl
 }
 rotate_left
 {
 simp only [Act.put, List.setIfInBounds_toArray, List.set_cons_zero, List.set_cons_succ, i64_w, i32_w]
 rfl
 }
 refine take_ (i := 3) (N := some 111) (v := ?_) (a' := ?_) #[false, true, false, true, false, false, true, false, false, false, false, false, false, false] rfl rfl (take_ofW HT_.out HW_.out (by kernel_rfl)) (fun _ _ _ h => h) (Or.inl ⟨by rfl, ?_⟩) hHeld ?_ ?_
 rotate_left
 {
 rintro w' ⟨s0, s1, s2, s3, s4⟩
 go_simp
 with_reducible rfl
 }
 rotate_left
 {
 simp only [Act.put, List.setIfInBounds_toArray, List.set_cons_zero, List.set_cons_succ, i64_w, i32_w]
 rfl
 }
 refine join_ (σ := Value × Value × Value × Value × Nat) 2 #[true, true, true, true, true, true, true, true, true, true, true, true, false, false] (fun s_ => [(108, s_.1), (110, s_.2.1), (112, s_.2.2.1), (113, s_.2.2.2.1), (115, .tuple #[.agg #[.int .i64 t345, .int .i64 t346, .int .i64 t347, .int .i64 t348, .int .i64 t349], .bool (by first | (clear bq1_; exact true) | exact false)]), (14, .pointer (some ⟨s_.2.2.2.2, 0, none⟩)), (107, .tuple #[.agg #[.int .i64 t345, .int .i64 t346, .int .i64 t347, .int .i64 t348, .int .i64 t349], .bool (by first | (clear bq1_; exact true) | exact false)]), (116, .agg #[.int .i64 t345, .int .i64 t346, .int .i64 t347, .int .i64 t348, .int .i64 t349]), (117, .bool (by first | (clear bq1_; exact true) | exact false))]) (fun s_ w' => (w'.cell? ⟨gb332, 0, none⟩ = some (.int .i64 t316) ∧ w'.cell? ⟨gb332, 1, none⟩ = some (.int .i64 t317) ∧ w'.cell? ⟨gb332, 2, none⟩ = some (.int .i64 167772177) ∧ w'.cell? ⟨gb332, 3, none⟩ = some (.int .i64 t319) ∧ w'.cell? ⟨gb332, 4, none⟩ = some (.int .i64 t320)) ∧ (Kd.R k76 76 w' w.heap.size (fun k_ => some k_ ≠ (s_.2.2.2.1 : Value).ownBlock ∧ some k_ ≠ (.slice Ao1005 t306.length co1005 : Value).ownBlock ∧ k_ ≠ gb322 ∧ k_ ≠ gb332 ∧ k_ ≠ s_.2.2.2.2) s_.2.2.1 y339) ∧ (Kd.R k76 76 w' w.heap.size (fun k_ => some k_ ≠ (s_.2.2.1 : Value).ownBlock ∧ some k_ ≠ (.slice Ao1005 t306.length co1005 : Value).ownBlock ∧ k_ ≠ gb322 ∧ k_ ≠ gb332 ∧ k_ ≠ s_.2.2.2.2) s_.2.2.2.1 y342) ∧ (Kd.R k76 76 w' w.heap.size (fun k_ => some k_ ≠ (s_.2.2.1 : Value).ownBlock ∧ some k_ ≠ (s_.2.2.2.1 : Value).ownBlock ∧ k_ ≠ gb322 ∧ k_ ≠ gb332 ∧ k_ ≠ s_.2.2.2.2) (.slice Ao1005 t306.length co1005) t306) ∧ (w'.heap[gb322]? = some (.cells #[.int .i64 t316, .int .i64 t317, .int .i64 t318, .int .i64 t319, .int .i64 t320] 76 (0, 0))) ∧ (w'.heap[gb332]? = some (.cells #[.int .i64 t316, .int .i64 t317, .int .i64 167772177, .int .i64 t319, .int .i64 t320] 76 (0, 0))) ∧ (w'.heap[s_.2.2.2.2]? = some (.cells #[.int .i64 0, .int .i64 0, .int .i64 0, .int .i64 0, .int .i64 0] 76 (0, 0))) ∧ (w.heap.size ≤ s_.2.2.2.2) ∧ (w.heap.size ≤ s_.2.2.2.2) ∧ (gb322 ≠ s_.2.2.2.2) ∧ (s_.2.2.2.2 ≠ gb322) ∧ (gb332 ≠ s_.2.2.2.2) ∧ (s_.2.2.2.2 ≠ gb332) ∧ (Below w.heap.size w w')) ?_ ?_
 rotate_left
 {
 intro hJ0_2_4_5_7_11
 refine join_ (σ := Value × Value × Value × Value) 3 #[true, true, true, true, true, true, true, true, true, true, true, false, false, false] (fun s_ => [(108, s_.1), (110, s_.2.1), (112, s_.2.2.1), (113, s_.2.2.2), (115, .tuple #[.agg #[.int .i64 t345, .int .i64 t346, .int .i64 t347, .int .i64 t348, .int .i64 t349], .bool (by first | (clear bq1_; exact true) | exact false)]), (107, .tuple #[.agg #[.int .i64 t345, .int .i64 t346, .int .i64 t347, .int .i64 t348, .int .i64 t349], .bool (by first | (clear bq1_; exact true) | exact false)]), (116, .agg #[.int .i64 t345, .int .i64 t346, .int .i64 t347, .int .i64 t348, .int .i64 t349]), (117, .bool (by first | (clear bq1_; exact true) | exact false))]) (fun s_ w' => (w'.cell? ⟨gb332, 0, none⟩ = some (.int .i64 t316) ∧ w'.cell? ⟨gb332, 1, none⟩ = some (.int .i64 t317) ∧ w'.cell? ⟨gb332, 2, none⟩ = some (.int .i64 167772177) ∧ w'.cell? ⟨gb332, 3, none⟩ = some (.int .i64 t319) ∧ w'.cell? ⟨gb332, 4, none⟩ = some (.int .i64 t320)) ∧ (Kd.R k76 76 w' w.heap.size (fun k_ => some k_ ≠ (s_.2.2.2 : Value).ownBlock ∧ some k_ ≠ (.slice Ao1005 t306.length co1005 : Value).ownBlock ∧ k_ ≠ gb322 ∧ k_ ≠ gb332) s_.2.2.1 y339) ∧ (Kd.R k76 76 w' w.heap.size (fun k_ => some k_ ≠ (s_.2.2.1 : Value).ownBlock ∧ some k_ ≠ (.slice Ao1005 t306.length co1005 : Value).ownBlock ∧ k_ ≠ gb322 ∧ k_ ≠ gb332) s_.2.2.2 y342) ∧ (Kd.R k76 76 w' w.heap.size (fun k_ => some k_ ≠ (s_.2.2.1 : Value).ownBlock ∧ some k_ ≠ (s_.2.2.2 : Value).ownBlock ∧ k_ ≠ gb322 ∧ k_ ≠ gb332) (.slice Ao1005 t306.length co1005) t306) ∧ (w'.heap[gb322]? = some (.cells #[.int .i64 t316, .int .i64 t317, .int .i64 t318, .int .i64 t319, .int .i64 t320] 76 (0, 0))) ∧ (w'.heap[gb332]? = some (.cells #[.int .i64 t316, .int .i64 t317, .int .i64 167772177, .int .i64 t319, .int .i64 t320] 76 (0, 0))) ∧ (Below w.heap.size w w')) ?_ ?_
 rotate_left
 {
 intro hJ0_2_4_5_7
 refine join_ (σ := Value × Value × Value × Value × Nat) 6 #[true, true, true, true, true, true, true, false, false, false, false, true, false, false] (fun s_ => [(108, s_.1), (110, s_.2.1), (112, s_.2.2.1), (113, s_.2.2.2.1), (14, .pointer (some ⟨s_.2.2.2.2, 0, none⟩))]) (fun s_ w' => (w'.cell? ⟨gb332, 0, none⟩ = some (.int .i64 t316) ∧ w'.cell? ⟨gb332, 1, none⟩ = some (.int .i64 t317) ∧ w'.cell? ⟨gb332, 2, none⟩ = some (.int .i64 167772177) ∧ w'.cell? ⟨gb332, 3, none⟩ = some (.int .i64 t319) ∧ w'.cell? ⟨gb332, 4, none⟩ = some (.int .i64 t320)) ∧ (Kd.R k76 76 w' w.heap.size (fun k_ => some k_ ≠ (s_.2.2.2.1 : Value).ownBlock ∧ some k_ ≠ (.slice Ao1005 t306.length co1005 : Value).ownBlock ∧ k_ ≠ gb322 ∧ k_ ≠ gb332 ∧ k_ ≠ s_.2.2.2.2) s_.2.2.1 y339) ∧ (Kd.R k76 76 w' w.heap.size (fun k_ => some k_ ≠ (s_.2.2.1 : Value).ownBlock ∧ some k_ ≠ (.slice Ao1005 t306.length co1005 : Value).ownBlock ∧ k_ ≠ gb322 ∧ k_ ≠ gb332 ∧ k_ ≠ s_.2.2.2.2) s_.2.2.2.1 y342) ∧ (Kd.R k76 76 w' w.heap.size (fun k_ => some k_ ≠ (s_.2.2.1 : Value).ownBlock ∧ some k_ ≠ (s_.2.2.2.1 : Value).ownBlock ∧ k_ ≠ gb322 ∧ k_ ≠ gb332 ∧ k_ ≠ s_.2.2.2.2) (.slice Ao1005 t306.length co1005) t306) ∧ (w'.heap[gb322]? = some (.cells #[.int .i64 t316, .int .i64 t317, .int .i64 t318, .int .i64 t319, .int .i64 t320] 76 (0, 0))) ∧ (w'.heap[gb332]? = some (.cells #[.int .i64 t316, .int .i64 t317, .int .i64 167772177, .int .i64 t319, .int .i64 t320] 76 (0, 0))) ∧ (w'.heap[s_.2.2.2.2]? = some (.cells #[.int .i64 0, .int .i64 0, .int .i64 0, .int .i64 0, .int .i64 0] 76 (0, 0))) ∧ (w.heap.size ≤ s_.2.2.2.2) ∧ (w.heap.size ≤ s_.2.2.2.2) ∧ (gb322 ≠ s_.2.2.2.2) ∧ (s_.2.2.2.2 ≠ gb322) ∧ (gb332 ≠ s_.2.2.2.2) ∧ (s_.2.2.2.2 ≠ gb332) ∧ (Below w.heap.size w w')) ?_ ?_
 rotate_left
 {
 intro hJ0_2_4_5_11
 refine join_ (σ := Value × Value × Value × Value) 7 #[true, true, true, true, true, true, true, false, false, false, false, false, false, false] (fun s_ => [(108, s_.1), (110, s_.2.1), (112, s_.2.2.1), (113, s_.2.2.2)]) (fun s_ w' => (w'.cell? ⟨gb332, 0, none⟩ = some (.int .i64 t316) ∧ w'.cell? ⟨gb332, 1, none⟩ = some (.int .i64 t317) ∧ w'.cell? ⟨gb332, 2, none⟩ = some (.int .i64 167772177) ∧ w'.cell? ⟨gb332, 3, none⟩ = some (.int .i64 t319) ∧ w'.cell? ⟨gb332, 4, none⟩ = some (.int .i64 t320)) ∧ (Kd.R k76 76 w' w.heap.size (fun k_ => some k_ ≠ (s_.2.2.2 : Value).ownBlock ∧ some k_ ≠ (.slice Ao1005 t306.length co1005 : Value).ownBlock ∧ k_ ≠ gb322 ∧ k_ ≠ gb332) s_.2.2.1 y339) ∧ (Kd.R k76 76 w' w.heap.size (fun k_ => some k_ ≠ (s_.2.2.1 : Value).ownBlock ∧ some k_ ≠ (.slice Ao1005 t306.length co1005 : Value).ownBlock ∧ k_ ≠ gb322 ∧ k_ ≠ gb332) s_.2.2.2 y342) ∧ (Kd.R k76 76 w' w.heap.size (fun k_ => some k_ ≠ (s_.2.2.1 : Value).ownBlock ∧ some k_ ≠ (s_.2.2.2 : Value).ownBlock ∧ k_ ≠ gb322 ∧ k_ ≠ gb332) (.slice Ao1005 t306.length co1005) t306) ∧ (w'.heap[gb322]? = some (.cells #[.int .i64 t316, .int .i64 t317, .int .i64 t318, .int .i64 t319, .int .i64 t320] 76 (0, 0))) ∧ (w'.heap[gb332]? = some (.cells #[.int .i64 t316, .int .i64 t317, .int .i64 167772177, .int .i64 t319, .int .i64 t320] 76 (0, 0))) ∧ (Below w.heap.size w w')) ?_ ?_
 rotate_left
 {
 intro hJ0_2_4_5
 refine join_ (σ := Value × Value × Value × Nat) 7 #[true, true, true, true, true, false, true, false, false, false, false, true, false, false] (fun s_ => [(108, s_.1), (110, s_.2.1), (112, s_.2.2.1), (14, .pointer (some ⟨s_.2.2.2, 0, none⟩))]) (fun s_ w' => (w'.cell? ⟨gb332, 0, none⟩ = some (.int .i64 t316) ∧ w'.cell? ⟨gb332, 1, none⟩ = some (.int .i64 t317) ∧ w'.cell? ⟨gb332, 2, none⟩ = some (.int .i64 167772177) ∧ w'.cell? ⟨gb332, 3, none⟩ = some (.int .i64 t319) ∧ w'.cell? ⟨gb332, 4, none⟩ = some (.int .i64 t320)) ∧ (Kd.R k76 76 w' w.heap.size (fun k_ => some k_ ≠ (s_.2.2.1 : Value).ownBlock ∧ some k_ ≠ (.slice Ao1005 t306.length co1005 : Value).ownBlock ∧ k_ ≠ gb322 ∧ k_ ≠ gb332 ∧ k_ ≠ s_.2.2.2) s_.2.1 y336) ∧ (Kd.R k76 76 w' w.heap.size (fun k_ => some k_ ≠ (s_.2.1 : Value).ownBlock ∧ some k_ ≠ (.slice Ao1005 t306.length co1005 : Value).ownBlock ∧ k_ ≠ gb322 ∧ k_ ≠ gb332 ∧ k_ ≠ s_.2.2.2) s_.2.2.1 y339) ∧ (Kd.R k76 76 w' w.heap.size (fun k_ => some k_ ≠ (s_.2.1 : Value).ownBlock ∧ some k_ ≠ (s_.2.2.1 : Value).ownBlock ∧ k_ ≠ gb322 ∧ k_ ≠ gb332 ∧ k_ ≠ s_.2.2.2) (.slice Ao1005 t306.length co1005) t306) ∧ (w'.heap[gb322]? = some (.cells #[.int .i64 t316, .int .i64 t317, .int .i64 t318, .int .i64 t319, .int .i64 t320] 76 (0, 0))) ∧ (w'.heap[gb332]? = some (.cells #[.int .i64 t316, .int .i64 t317, .int .i64 167772177, .int .i64 t319, .int .i64 t320] 76 (0, 0))) ∧ (w'.heap[s_.2.2.2]? = some (.cells #[.int .i64 0, .int .i64 0, .int .i64 0, .int .i64 0, .int .i64 0] 76 (0, 0))) ∧ (w.heap.size ≤ s_.2.2.2) ∧ (w.heap.size ≤ s_.2.2.2) ∧ (gb322 ≠ s_.2.2.2) ∧ (s_.2.2.2 ≠ gb322) ∧ (gb332 ≠ s_.2.2.2) ∧ (s_.2.2.2 ≠ gb332) ∧ (Below w.heap.size w w')) ?_ ?_
 rotate_left
 {
 intro hJ0_2_4_11
 refine join_ (σ := Value × Value × Value) 8 #[true, true, true, true, true, false, true, false, false, false, false, false, false, false] (fun s_ => [(108, s_.1), (110, s_.2.1), (112, s_.2.2)]) (fun s_ w' => (w'.cell? ⟨gb332, 0, none⟩ = some (.int .i64 t316) ∧ w'.cell? ⟨gb332, 1, none⟩ = some (.int .i64 t317) ∧ w'.cell? ⟨gb332, 2, none⟩ = some (.int .i64 167772177) ∧ w'.cell? ⟨gb332, 3, none⟩ = some (.int .i64 t319) ∧ w'.cell? ⟨gb332, 4, none⟩ = some (.int .i64 t320)) ∧ (Kd.R k76 76 w' w.heap.size (fun k_ => some k_ ≠ (s_.2.2 : Value).ownBlock ∧ some k_ ≠ (.slice Ao1005 t306.length co1005 : Value).ownBlock ∧ k_ ≠ gb322 ∧ k_ ≠ gb332) s_.2.1 y336) ∧ (Kd.R k76 76 w' w.heap.size (fun k_ => some k_ ≠ (s_.2.1 : Value).ownBlock ∧ some k_ ≠ (.slice Ao1005 t306.length co1005 : Value).ownBlock ∧ k_ ≠ gb322 ∧ k_ ≠ gb332) s_.2.2 y339) ∧ (Kd.R k76 76 w' w.heap.size (fun k_ => some k_ ≠ (s_.2.1 : Value).ownBlock ∧ some k_ ≠ (s_.2.2 : Value).ownBlock ∧ k_ ≠ gb322 ∧ k_ ≠ gb332) (.slice Ao1005 t306.length co1005) t306) ∧ (w'.heap[gb322]? = some (.cells #[.int .i64 t316, .int .i64 t317, .int .i64 t318, .int .i64 t319, .int .i64 t320] 76 (0, 0))) ∧ (w'.heap[gb332]? = some (.cells #[.int .i64 t316, .int .i64 t317, .int .i64 167772177, .int .i64 t319, .int .i64 t320] 76 (0, 0))) ∧ (Below w.heap.size w w')) ?_ ?_
 rotate_left
 {
 intro hJ0_2_4
 refine join_ (σ := Value × Value × Nat) 8 #[true, true, true, true, false, false, true, false, false, false, false, true, false, false] (fun s_ => [(108, s_.1), (110, s_.2.1), (14, .pointer (some ⟨s_.2.2, 0, none⟩))]) (fun s_ w' => (w'.cell? ⟨gb332, 0, none⟩ = some (.int .i64 t316) ∧ w'.cell? ⟨gb332, 1, none⟩ = some (.int .i64 t317) ∧ w'.cell? ⟨gb332, 2, none⟩ = some (.int .i64 167772177) ∧ w'.cell? ⟨gb332, 3, none⟩ = some (.int .i64 t319) ∧ w'.cell? ⟨gb332, 4, none⟩ = some (.int .i64 t320)) ∧ (Kd.R k76 76 w' w.heap.size (fun k_ => some k_ ≠ (.slice Ao1005 t306.length co1005 : Value).ownBlock ∧ k_ ≠ gb322 ∧ k_ ≠ gb332 ∧ k_ ≠ s_.2.2) s_.2.1 y336) ∧ (Kd.R k76 76 w' w.heap.size (fun k_ => some k_ ≠ (s_.2.1 : Value).ownBlock ∧ k_ ≠ gb322 ∧ k_ ≠ gb332 ∧ k_ ≠ s_.2.2) (.slice Ao1005 t306.length co1005) t306) ∧ (w'.heap[gb322]? = some (.cells #[.int .i64 t316, .int .i64 t317, .int .i64 t318, .int .i64 t319, .int .i64 t320] 76 (0, 0))) ∧ (w'.heap[gb332]? = some (.cells #[.int .i64 t316, .int .i64 t317, .int .i64 167772177, .int .i64 t319, .int .i64 t320] 76 (0, 0))) ∧ (w'.heap[s_.2.2]? = some (.cells #[.int .i64 0, .int .i64 0, .int .i64 0, .int .i64 0, .int .i64 0] 76 (0, 0))) ∧ (w.heap.size ≤ s_.2.2) ∧ (w.heap.size ≤ s_.2.2) ∧ (gb322 ≠ s_.2.2) ∧ (s_.2.2 ≠ gb322) ∧ (gb332 ≠ s_.2.2) ∧ (s_.2.2 ≠ gb332) ∧ (Below w.heap.size w w')) ?_ ?_
 rotate_left
 {
 intro hJ0_2_11
 refine join_ (σ := Value × Value × Nat) 8 #[true, true, false, true, true, false, true, false, false, false, false, true, false, false] (fun s_ => [(108, s_.1), (112, s_.2.1), (14, .pointer (some ⟨s_.2.2, 0, none⟩))]) (fun s_ w' => (w'.cell? ⟨gb332, 0, none⟩ = some (.int .i64 t316) ∧ w'.cell? ⟨gb332, 1, none⟩ = some (.int .i64 t317) ∧ w'.cell? ⟨gb332, 2, none⟩ = some (.int .i64 167772177) ∧ w'.cell? ⟨gb332, 3, none⟩ = some (.int .i64 t319) ∧ w'.cell? ⟨gb332, 4, none⟩ = some (.int .i64 t320)) ∧ (Kd.R k76 76 w' w.heap.size (fun k_ => some k_ ≠ (s_.2.1 : Value).ownBlock ∧ some k_ ≠ (.slice Ao1005 t306.length co1005 : Value).ownBlock ∧ k_ ≠ gb322 ∧ k_ ≠ gb332 ∧ k_ ≠ s_.2.2) s_.1 y333) ∧ (Kd.R k76 76 w' w.heap.size (fun k_ => some k_ ≠ (s_.1 : Value).ownBlock ∧ some k_ ≠ (.slice Ao1005 t306.length co1005 : Value).ownBlock ∧ k_ ≠ gb322 ∧ k_ ≠ gb332 ∧ k_ ≠ s_.2.2) s_.2.1 y339) ∧ (Kd.R k76 76 w' w.heap.size (fun k_ => some k_ ≠ (s_.1 : Value).ownBlock ∧ some k_ ≠ (s_.2.1 : Value).ownBlock ∧ k_ ≠ gb322 ∧ k_ ≠ gb332 ∧ k_ ≠ s_.2.2) (.slice Ao1005 t306.length co1005) t306) ∧ (w'.heap[gb322]? = some (.cells #[.int .i64 t316, .int .i64 t317, .int .i64 t318, .int .i64 t319, .int .i64 t320] 76 (0, 0))) ∧ (w'.heap[gb332]? = some (.cells #[.int .i64 t316, .int .i64 t317, .int .i64 167772177, .int .i64 t319, .int .i64 t320] 76 (0, 0))) ∧ (w'.heap[s_.2.2]? = some (.cells #[.int .i64 0, .int .i64 0, .int .i64 0, .int .i64 0, .int .i64 0] 76 (0, 0))) ∧ (w.heap.size ≤ s_.2.2) ∧ (w.heap.size ≤ s_.2.2) ∧ (gb322 ≠ s_.2.2) ∧ (s_.2.2 ≠ gb322) ∧ (gb332 ≠ s_.2.2) ∧ (s_.2.2 ≠ gb332) ∧ (Below w.heap.size w w')) ?_ ?_
 rotate_left
 {
 intro hJ0_4_11
 refine join_ (σ := Value × Value) 9 #[true, true, true, true, false, false, true, false, false, false, false, false, false, false] (fun s_ => [(108, s_.1), (110, s_.2)]) (fun s_ w' => (w'.cell? ⟨gb332, 0, none⟩ = some (.int .i64 t316) ∧ w'.cell? ⟨gb332, 1, none⟩ = some (.int .i64 t317) ∧ w'.cell? ⟨gb332, 2, none⟩ = some (.int .i64 167772177) ∧ w'.cell? ⟨gb332, 3, none⟩ = some (.int .i64 t319) ∧ w'.cell? ⟨gb332, 4, none⟩ = some (.int .i64 t320)) ∧ (Kd.R k76 76 w' w.heap.size (fun k_ => some k_ ≠ (.slice Ao1005 t306.length co1005 : Value).ownBlock ∧ k_ ≠ gb322 ∧ k_ ≠ gb332) s_.2 y336) ∧ (Kd.R k76 76 w' w.heap.size (fun k_ => some k_ ≠ (s_.2 : Value).ownBlock ∧ k_ ≠ gb322 ∧ k_ ≠ gb332) (.slice Ao1005 t306.length co1005) t306) ∧ (w'.heap[gb322]? = some (.cells #[.int .i64 t316, .int .i64 t317, .int .i64 t318, .int .i64 t319, .int .i64 t320] 76 (0, 0))) ∧ (w'.heap[gb332]? = some (.cells #[.int .i64 t316, .int .i64 t317, .int .i64 167772177, .int .i64 t319, .int .i64 t320] 76 (0, 0))) ∧ (Below w.heap.size w w')) ?_ ?_
 rotate_left
 {
 intro hJ0_2
 refine join_ (σ := Value × Value) 9 #[true, true, false, true, true, false, true, false, false, false, false, false, false, false] (fun s_ => [(108, s_.1), (112, s_.2)]) (fun s_ w' => (w'.cell? ⟨gb332, 0, none⟩ = some (.int .i64 t316) ∧ w'.cell? ⟨gb332, 1, none⟩ = some (.int .i64 t317) ∧ w'.cell? ⟨gb332, 2, none⟩ = some (.int .i64 167772177) ∧ w'.cell? ⟨gb332, 3, none⟩ = some (.int .i64 t319) ∧ w'.cell? ⟨gb332, 4, none⟩ = some (.int .i64 t320)) ∧ (Kd.R k76 76 w' w.heap.size (fun k_ => some k_ ≠ (s_.2 : Value).ownBlock ∧ some k_ ≠ (.slice Ao1005 t306.length co1005 : Value).ownBlock ∧ k_ ≠ gb322 ∧ k_ ≠ gb332) s_.1 y333) ∧ (Kd.R k76 76 w' w.heap.size (fun k_ => some k_ ≠ (s_.1 : Value).ownBlock ∧ some k_ ≠ (.slice Ao1005 t306.length co1005 : Value).ownBlock ∧ k_ ≠ gb322 ∧ k_ ≠ gb332) s_.2 y339) ∧ (Kd.R k76 76 w' w.heap.size (fun k_ => some k_ ≠ (s_.1 : Value).ownBlock ∧ some k_ ≠ (s_.2 : Value).ownBlock ∧ k_ ≠ gb322 ∧ k_ ≠ gb332) (.slice Ao1005 t306.length co1005) t306) ∧ (w'.heap[gb322]? = some (.cells #[.int .i64 t316, .int .i64 t317, .int .i64 t318, .int .i64 t319, .int .i64 t320] 76 (0, 0))) ∧ (w'.heap[gb332]? = some (.cells #[.int .i64 t316, .int .i64 t317, .int .i64 167772177, .int .i64 t319, .int .i64 t320] 76 (0, 0))) ∧ (Below w.heap.size w w')) ?_ ?_
 rotate_left
 {
 intro hJ0_4
 refine join_ (σ := Value × Nat) 9 #[true, true, false, true, false, false, true, false, false, false, false, true, false, false] (fun s_ => [(108, s_.1), (14, .pointer (some ⟨s_.2, 0, none⟩))]) (fun s_ w' => (w'.cell? ⟨gb332, 0, none⟩ = some (.int .i64 t316) ∧ w'.cell? ⟨gb332, 1, none⟩ = some (.int .i64 t317) ∧ w'.cell? ⟨gb332, 2, none⟩ = some (.int .i64 167772177) ∧ w'.cell? ⟨gb332, 3, none⟩ = some (.int .i64 t319) ∧ w'.cell? ⟨gb332, 4, none⟩ = some (.int .i64 t320)) ∧ (Kd.R k76 76 w' w.heap.size (fun k_ => some k_ ≠ (.slice Ao1005 t306.length co1005 : Value).ownBlock ∧ k_ ≠ gb322 ∧ k_ ≠ gb332 ∧ k_ ≠ s_.2) s_.1 y333) ∧ (Kd.R k76 76 w' w.heap.size (fun k_ => some k_ ≠ (s_.1 : Value).ownBlock ∧ k_ ≠ gb322 ∧ k_ ≠ gb332 ∧ k_ ≠ s_.2) (.slice Ao1005 t306.length co1005) t306) ∧ (w'.heap[gb322]? = some (.cells #[.int .i64 t316, .int .i64 t317, .int .i64 t318, .int .i64 t319, .int .i64 t320] 76 (0, 0))) ∧ (w'.heap[gb332]? = some (.cells #[.int .i64 t316, .int .i64 t317, .int .i64 167772177, .int .i64 t319, .int .i64 t320] 76 (0, 0))) ∧ (w'.heap[s_.2]? = some (.cells #[.int .i64 0, .int .i64 0, .int .i64 0, .int .i64 0, .int .i64 0] 76 (0, 0))) ∧ (w.heap.size ≤ s_.2) ∧ (w.heap.size ≤ s_.2) ∧ (gb322 ≠ s_.2) ∧ (s_.2 ≠ gb322) ∧ (gb332 ≠ s_.2) ∧ (s_.2 ≠ gb332) ∧ (Below w.heap.size w w')) ?_ ?_
 rotate_left
 {
 intro hJ0_11
 refine join_ (σ := Value × Nat) 9 #[false, true, false, true, true, false, true, false, false, false, false, true, false, false] (fun s_ => [(112, s_.1), (14, .pointer (some ⟨s_.2, 0, none⟩))]) (fun s_ w' => (w'.cell? ⟨gb332, 0, none⟩ = some (.int .i64 t316) ∧ w'.cell? ⟨gb332, 1, none⟩ = some (.int .i64 t317) ∧ w'.cell? ⟨gb332, 2, none⟩ = some (.int .i64 167772177) ∧ w'.cell? ⟨gb332, 3, none⟩ = some (.int .i64 t319) ∧ w'.cell? ⟨gb332, 4, none⟩ = some (.int .i64 t320)) ∧ (Kd.R k76 76 w' w.heap.size (fun k_ => some k_ ≠ (.slice Ao1005 t306.length co1005 : Value).ownBlock ∧ k_ ≠ gb322 ∧ k_ ≠ gb332 ∧ k_ ≠ s_.2) s_.1 y339) ∧ (Kd.R k76 76 w' w.heap.size (fun k_ => some k_ ≠ (s_.1 : Value).ownBlock ∧ k_ ≠ gb322 ∧ k_ ≠ gb332 ∧ k_ ≠ s_.2) (.slice Ao1005 t306.length co1005) t306) ∧ (w'.heap[gb322]? = some (.cells #[.int .i64 t316, .int .i64 t317, .int .i64 t318, .int .i64 t319, .int .i64 t320] 76 (0, 0))) ∧ (w'.heap[gb332]? = some (.cells #[.int .i64 t316, .int .i64 t317, .int .i64 167772177, .int .i64 t319, .int .i64 t320] 76 (0, 0))) ∧ (w'.heap[s_.2]? = some (.cells #[.int .i64 0, .int .i64 0, .int .i64 0, .int .i64 0, .int .i64 0] 76 (0, 0))) ∧ (w.heap.size ≤ s_.2) ∧ (w.heap.size ≤ s_.2) ∧ (gb322 ≠ s_.2) ∧ (s_.2 ≠ gb322) ∧ (gb332 ≠ s_.2) ∧ (s_.2 ≠ gb332) ∧ (Below w.heap.size w w')) ?_ ?_
 rotate_left
 {
 intro hJ4_11
 refine join_ (σ := Value) 10 #[true, true, false, true, false, false, true, false, false, false, false, false, false, false] (fun s_ => [(108, s_)]) (fun s_ w' => (w'.cell? ⟨gb332, 0, none⟩ = some (.int .i64 t316) ∧ w'.cell? ⟨gb332, 1, none⟩ = some (.int .i64 t317) ∧ w'.cell? ⟨gb332, 2, none⟩ = some (.int .i64 167772177) ∧ w'.cell? ⟨gb332, 3, none⟩ = some (.int .i64 t319) ∧ w'.cell? ⟨gb332, 4, none⟩ = some (.int .i64 t320)) ∧ (Kd.R k76 76 w' w.heap.size (fun k_ => some k_ ≠ (.slice Ao1005 t306.length co1005 : Value).ownBlock ∧ k_ ≠ gb322 ∧ k_ ≠ gb332) s_ y333) ∧ (Kd.R k76 76 w' w.heap.size (fun k_ => some k_ ≠ (s_ : Value).ownBlock ∧ k_ ≠ gb322 ∧ k_ ≠ gb332) (.slice Ao1005 t306.length co1005) t306) ∧ (w'.heap[gb322]? = some (.cells #[.int .i64 t316, .int .i64 t317, .int .i64 t318, .int .i64 t319, .int .i64 t320] 76 (0, 0))) ∧ (w'.heap[gb332]? = some (.cells #[.int .i64 t316, .int .i64 t317, .int .i64 167772177, .int .i64 t319, .int .i64 t320] 76 (0, 0))) ∧ (Below w.heap.size w w')) ?_ ?_
 rotate_left
 {
 intro hJ0
 refine join_ (σ := Value) 10 #[false, true, false, true, true, false, true, false, false, false, false, false, false, false] (fun s_ => [(112, s_)]) (fun s_ w' => (w'.cell? ⟨gb332, 0, none⟩ = some (.int .i64 t316) ∧ w'.cell? ⟨gb332, 1, none⟩ = some (.int .i64 t317) ∧ w'.cell? ⟨gb332, 2, none⟩ = some (.int .i64 167772177) ∧ w'.cell? ⟨gb332, 3, none⟩ = some (.int .i64 t319) ∧ w'.cell? ⟨gb332, 4, none⟩ = some (.int .i64 t320)) ∧ (Kd.R k76 76 w' w.heap.size (fun k_ => some k_ ≠ (.slice Ao1005 t306.length co1005 : Value).ownBlock ∧ k_ ≠ gb322 ∧ k_ ≠ gb332) s_ y339) ∧ (Kd.R k76 76 w' w.heap.size (fun k_ => some k_ ≠ (s_ : Value).ownBlock ∧ k_ ≠ gb322 ∧ k_ ≠ gb332) (.slice Ao1005 t306.length co1005) t306) ∧ (w'.heap[gb322]? = some (.cells #[.int .i64 t316, .int .i64 t317, .int .i64 t318, .int .i64 t319, .int .i64 t320] 76 (0, 0))) ∧ (w'.heap[gb332]? = some (.cells #[.int .i64 t316, .int .i64 t317, .int .i64 167772177, .int .i64 t319, .int .i64 t320] 76 (0, 0))) ∧ (Below w.heap.size w w')) ?_ ?_
 rotate_left
 {
 intro hJ4
 refine join_ (σ := Nat) 10 #[false, true, false, true, false, false, true, false, false, false, false, true, false, false] (fun s_ => [(14, .pointer (some ⟨s_, 0, none⟩))]) (fun s_ w' => (w'.cell? ⟨gb332, 0, none⟩ = some (.int .i64 t316) ∧ w'.cell? ⟨gb332, 1, none⟩ = some (.int .i64 t317) ∧ w'.cell? ⟨gb332, 2, none⟩ = some (.int .i64 167772177) ∧ w'.cell? ⟨gb332, 3, none⟩ = some (.int .i64 t319) ∧ w'.cell? ⟨gb332, 4, none⟩ = some (.int .i64 t320)) ∧ (Kd.R k76 76 w' w.heap.size (fun k_ => k_ ≠ gb322 ∧ k_ ≠ gb332 ∧ k_ ≠ s_) (.slice Ao1005 t306.length co1005) t306) ∧ (w'.heap[gb322]? = some (.cells #[.int .i64 t316, .int .i64 t317, .int .i64 t318, .int .i64 t319, .int .i64 t320] 76 (0, 0))) ∧ (w'.heap[gb332]? = some (.cells #[.int .i64 t316, .int .i64 t317, .int .i64 167772177, .int .i64 t319, .int .i64 t320] 76 (0, 0))) ∧ (w'.heap[s_]? = some (.cells #[.int .i64 0, .int .i64 0, .int .i64 0, .int .i64 0, .int .i64 0] 76 (0, 0))) ∧ (w.heap.size ≤ s_) ∧ (w.heap.size ≤ s_) ∧ (gb322 ≠ s_) ∧ (s_ ≠ gb322) ∧ (gb332 ≠ s_) ∧ (s_ ≠ gb332) ∧ (Below w.heap.size w w')) ?_ ?_
 rotate_left
 {
 intro hJ11
 refine three_ (i := 0) (j := 4) (k := 11) (Ni := some 108) (Nj := some 112) (Nk := some 14) #[true, true, false, true, false, false, true, false, false, false, false, false, false, false] #[false, true, false, true, true, false, true, false, false, false, false, false, false, false] #[false, true, false, true, false, false, true, false, false, false, false, true, false, false] rfl rfl rfl rfl rfl rfl (three_of HT_.out (by kernel_rfl)) (by decide) (by decide) (by decide) (fun K hK => ?_) (fun K hK => ?_) (fun K hK => ?_)
 {
 skip
 refine Kd.R_lit_step k76 _ 76 ?hg (N := 108) ?hd (xs := ([] : List (S76))) (inner := []) (ok := fun _ => True) (okp := fun _ => True) ?hr ?hp (fun _ hk => hk) trivial (Below.refl _ _) (Nat.le_refl _) (by simp) ?_; (case hd => rfl); (case hg => rfl); (case hr => first | (go_simp; done) | (go_simp; rfl)); (case hp => exact (Reps.none _ _))
 intro v334 w3009 ho3010 hb hg_ hnew_
 clear hg_ hnew_
 (first | rw [← Ny333.out] at ho3010 | (simp only [Int.reduceToNat] at ho3010; rw [← Ny333.out] at ho3010))
 have n0_ := Aside0.mk (Kd.R_elder' (Rh HO_3) (Kd.R_base ho3010) hb)
 have n1_ := Aside0.mk (Kd.R_lower (Kd.R_newB (Kd.R_newB (Kd.R_new' ho3010 (Kd.R_lt (Rh HO_3))) (Bh BK322)) (Bh BK332)) (below_size wB))
 have n2_ := Aside0.mk (blk_below (Bh BK322) hb)
 have n3_ := Aside0.mk (blk_below (Bh BK332) hb)
 have n4_ := Aside0.mk (below_step wB hb)
 clear HO_3
 clear BK322
 clear BK332
 clear HB
 have HO_3 := n0_
 have HO335 := n1_
 have BK322 := n2_
 have BK332 := n3_
 have HB := n4_
 clear n0_ n1_ n2_ n3_ n4_
 clear hb ho3010
 refine hK.out _ _ ⟨(blk_cell BK332.out 0).trans rfl, (blk_cell BK332.out 1).trans rfl, (blk_cell BK332.out 2).trans rfl, (blk_cell BK332.out 3).trans rfl, (blk_cell BK332.out 4).trans rfl⟩ (fun hHeld => ?_)
 clear hK K
 refine norm_ (a' := ?_) ?_ ?_
 rotate_left
 {
 show Act.put _ (some 108) _ = _
 simp only [Act.put, List.setIfInBounds_toArray, List.set_cons_zero, List.set_cons_succ, i64_w, i32_w]
 rfl
 }
 exact norm_ (by first | (simp only [putAll, Act.put, List.setIfInBounds_toArray, List.set_cons_zero, List.set_cons_succ]; done) | (simp only [putAll, Act.put, List.setIfInBounds_toArray, List.set_cons_zero, List.set_cons_succ]; rfl)) (hJ0 (v334) _ ⟨hHeld, (Kd.R_mono (Rh HO335) (fun _ hk => ⟨hk.1.1.2, ⟨hk.1.2, hk.2⟩⟩)), (Kd.R_mono (Rh HO_3) (fun _ hk => ⟨hk.2, ⟨hk.1.1, hk.1.2⟩⟩)), (Bh BK322), (Bh BK332), wB⟩)
 }
 {
 skip
 refine Kd.R_lit_step k76 _ 76 ?hg (N := 112) ?hd (xs := ([(⟨(⟨t316, t317⟩ : S74), 167772177, t319, t320⟩ : S76)] : List (S76))) (inner := [.int .i64 t316, .int .i64 t317, .int .i64 167772177, .int .i64 t319, .int .i64 t320]) (ok := fun _ => True) (okp := fun _ => True) ?hr ?hp (fun _ hk => hk) trivial (Below.refl _ _) (Nat.le_refl _) (by simp) ?_; (case hd => rfl); (case hg => rfl); (case hr => first | (go_simp; done) | (go_simp; rfl)); (case hp => exact (Reps.c5 (show Kd.M k76 _ _ _ (⟨(⟨t316, t317⟩ : S74), 167772177, t319, t320⟩ : S76) [.int .i64 t316, .int .i64 t317, .int .i64 167772177, .int .i64 t319, .int .i64 t320] from (k76_mkM _ _ _ (⟨(⟨t316, t317⟩ : S74), 167772177, t319, t320⟩ : S76) )) (Reps.none _ _)))
 intro v340 w3009 ho3010 hb hg_ hnew_
 clear hg_ hnew_
 (first | rw [← Ny339.out] at ho3010 | (simp only [Int.reduceToNat] at ho3010; rw [← Ny339.out] at ho3010))
 have n0_ := Aside0.mk (Kd.R_elder' (Rh HO_3) (Kd.R_base ho3010) hb)
 have n1_ := Aside0.mk (Kd.R_lower (Kd.R_newB (Kd.R_newB (Kd.R_new' ho3010 (Kd.R_lt (Rh HO_3))) (Bh BK322)) (Bh BK332)) (below_size wB))
 have n2_ := Aside0.mk (blk_below (Bh BK322) hb)
 have n3_ := Aside0.mk (blk_below (Bh BK332) hb)
 have n4_ := Aside0.mk (below_step wB hb)
 clear HO_3
 clear BK322
 clear BK332
 clear HB
 have HO_3 := n0_
 have HO341 := n1_
 have BK322 := n2_
 have BK332 := n3_
 have HB := n4_
 clear n0_ n1_ n2_ n3_ n4_
 clear hb ho3010
 refine hK.out _ _ ⟨(blk_cell BK332.out 0).trans rfl, (blk_cell BK332.out 1).trans rfl, (blk_cell BK332.out 2).trans rfl, (blk_cell BK332.out 3).trans rfl, (blk_cell BK332.out 4).trans rfl⟩ (fun hHeld => ?_)
 clear hK K
 refine norm_ (a' := ?_) ?_ ?_
 rotate_left
 {
 show Act.put _ (some 112) _ = _
 simp only [Act.put, List.setIfInBounds_toArray, List.set_cons_zero, List.set_cons_succ, i64_w, i32_w]
 rfl
 }
 exact norm_ (by first | (simp only [putAll, Act.put, List.setIfInBounds_toArray, List.set_cons_zero, List.set_cons_succ]; done) | (simp only [putAll, Act.put, List.setIfInBounds_toArray, List.set_cons_zero, List.set_cons_succ]; rfl)) (hJ4 (v340) _ ⟨hHeld, (Kd.R_mono (Rh HO341) (fun _ hk => ⟨hk.1.1.2, ⟨hk.1.2, hk.2⟩⟩)), (Kd.R_mono (Rh HO_3) (fun _ hk => ⟨hk.2, ⟨hk.1.1, hk.1.2⟩⟩)), (Bh BK322), (Bh BK332), wB⟩)
 }
 {
 skip
 refine box_step ?hg (N := 14) ?hd (cs := #[.int .i64 0, .int .i64 0, .int .i64 0, .int .i64 0, .int .i64 0]) (t := 76) ?hr ?_; (case hd => rfl); (case hg => rfl); (case hr => first | (go_simp; done) | (go_simp; rfl))
 intro gb351 hg w3009 hbox hb
 have n0_ := Aside0.mk (Kd.R_below (Kd.R_elderB (Rh HO_3) gb351 (Nat.le_of_eq hg.symm)) hb)
 have n1_ := Aside0.mk (blk_below (Bh BK322) hb)
 have n2_ := Aside0.mk (blk_below (Bh BK332) hb)
 have n3_ := Aside0.mk (below_step wB hb)
 have n4_ := Aside0.mk (hbox)
 have n5_ := Aside0.mk ((by rw [hg]; exact (below_size wB) : w.heap.size ≤ gb351))
 have n6_ := Aside0.mk ((by rw [hg]; exact (below_size wB) : w.heap.size ≤ gb351))
 have n7_ := Aside0.mk ((by rw [hg]; exact Nat.ne_of_lt (blk_lt (Bh BK322)) : gb322 ≠ gb351))
 have n8_ := Aside0.mk ((by rw [hg]; exact Nat.ne_of_gt (blk_lt (Bh BK322)) : gb351 ≠ gb322))
 have n9_ := Aside0.mk ((by rw [hg]; exact Nat.ne_of_lt (blk_lt (Bh BK332)) : gb332 ≠ gb351))
 have n10_ := Aside0.mk ((by rw [hg]; exact Nat.ne_of_gt (blk_lt (Bh BK332)) : gb351 ≠ gb332))
 clear HO_3
 clear BK322
 clear BK332
 clear HB
 have HO_3 := n0_
 have BK322 := n1_
 have BK332 := n2_
 have HB := n3_
 have BK351 := n4_
 have GW351 := n5_
 have GE351 := n6_
 have NB322_351 := n7_
 have NB351_322 := n8_
 have NB332_351 := n9_
 have NB351_332 := n10_
 clear n0_ n1_ n2_ n3_ n4_ n5_ n6_ n7_ n8_ n9_ n10_
 clear hb hbox hg
 refine hK.out _ _ ⟨(blk_cell BK332.out 0).trans rfl, (blk_cell BK332.out 1).trans rfl, (blk_cell BK332.out 2).trans rfl, (blk_cell BK332.out 3).trans rfl, (blk_cell BK332.out 4).trans rfl⟩ (fun hHeld => ?_)
 clear hK K
 refine norm_ (a' := ?_) ?_ ?_
 rotate_left
 {
 show Act.put _ (some 14) _ = _
 simp only [Act.put, List.setIfInBounds_toArray, List.set_cons_zero, List.set_cons_succ, i64_w, i32_w]
 rfl
 }
 exact norm_ (by first | (simp only [putAll, Act.put, List.setIfInBounds_toArray, List.set_cons_zero, List.set_cons_succ]; done) | (simp only [putAll, Act.put, List.setIfInBounds_toArray, List.set_cons_zero, List.set_cons_succ]; rfl)) (hJ11 (gb351) _ ⟨hHeld, (Kd.R_mono (Rh HO_3) (fun _ hk => ⟨hk.1.1, ⟨hk.1.2, hk.2⟩⟩)), (Bh BK322), (Bh BK332), (Bh BK351), GW351.out, GE351.out, NB322_351.out, NB351_322.out, NB332_351.out, NB351_332.out, wB⟩)
 }
 }
 {
 skip
 rintro gb351 w3010 ⟨hS_, h0_, h1_, h2_, h3_, h4_, h5_, h6_, h7_, h8_, h9_, h10_⟩
 have n0_ : Aside0 (Kd.R k76 76 w3010 w.heap.size (fun k_ => k_ ≠ gb322 ∧ k_ ≠ gb332 ∧ k_ ≠ gb351) (.slice Ao1005 t306.length co1005) t306) := ⟨h0_⟩
 have n1_ : Aside0 (w3010.heap[gb322]? = some (.cells #[.int .i64 t316, .int .i64 t317, .int .i64 t318, .int .i64 t319, .int .i64 t320] 76 (0, 0))) := ⟨h1_⟩
 have n2_ : Aside0 (w3010.heap[gb332]? = some (.cells #[.int .i64 t316, .int .i64 t317, .int .i64 167772177, .int .i64 t319, .int .i64 t320] 76 (0, 0))) := ⟨h2_⟩
 have n3_ : Aside0 (w3010.heap[gb351]? = some (.cells #[.int .i64 0, .int .i64 0, .int .i64 0, .int .i64 0, .int .i64 0] 76 (0, 0))) := ⟨h3_⟩
 have n4_ : Aside0 (w.heap.size ≤ gb351) := ⟨h4_⟩
 have n5_ : Aside0 (w.heap.size ≤ gb351) := ⟨h5_⟩
 have n6_ : Aside0 (gb322 ≠ gb351) := ⟨h6_⟩
 have n7_ : Aside0 (gb351 ≠ gb322) := ⟨h7_⟩
 have n8_ : Aside0 (gb332 ≠ gb351) := ⟨h8_⟩
 have n9_ : Aside0 (gb351 ≠ gb332) := ⟨h9_⟩
 have n10_ : Aside0 (Below w.heap.size w w3010) := ⟨h10_⟩
 clear HO_3
 clear BK322
 clear BK332
 clear HB
 clear h0_ h1_ h2_ h3_ h4_ h5_ h6_ h7_ h8_ h9_ h10_
 have HO_3 := n0_
 have BK322 := n1_
 have BK332 := n2_
 have BK351 := n3_
 have GW351 := n4_
 have GE351 := n5_
 have NB322_351 := n6_
 have NB351_322 := n7_
 have NB332_351 := n8_
 have NB351_332 := n9_
 have HB := n10_
 clear n0_ n1_ n2_ n3_ n4_ n5_ n6_ n7_ n8_ n9_ n10_
 have hHeld : w3010.cell? ⟨gb332, 0, none⟩ = some (.int .i64 t316) ∧ w3010.cell? ⟨gb332, 1, none⟩ = some (.int .i64 t317) ∧ w3010.cell? ⟨gb332, 2, none⟩ = some (.int .i64 167772177) ∧ w3010.cell? ⟨gb332, 3, none⟩ = some (.int .i64 t319) ∧ w3010.cell? ⟨gb332, 4, none⟩ = some (.int .i64 t320) := hS_
 refine norm_ (a' := ?_) ?_ ?_
 rotate_left
 {
 simp only [putAll, Act.put, List.setIfInBounds_toArray, List.set_cons_zero, List.set_cons_succ]
 rfl
 }
 refine two_ (i := 0) (j := 4) (Ni := some 108) (Nj := some 112) #[true, true, false, true, false, false, true, false, false, false, false, true, false, false] #[false, true, false, true, true, false, true, false, false, false, false, true, false, false] rfl rfl rfl rfl (two_of HT_.out (by kernel_rfl)) (by decide) (by decide) (fun K hK => ?_) (fun K hK => ?_)
 {
 skip
 refine Kd.R_lit_step k76 _ 76 ?hg (N := 108) ?hd (xs := ([] : List (S76))) (inner := []) (ok := fun _ => True) (okp := fun _ => True) ?hr ?hp (fun _ hk => hk) trivial (Below.refl _ _) (Nat.le_refl _) (by simp) ?_; (case hd => rfl); (case hg => rfl); (case hr => first | (go_simp; done) | (go_simp; rfl)); (case hp => exact (Reps.none _ _))
 intro v334 w3011 ho3012 hb hg_ hnew_
 clear hg_ hnew_
 (first | rw [← Ny333.out] at ho3012 | (simp only [Int.reduceToNat] at ho3012; rw [← Ny333.out] at ho3012))
 have n0_ := Aside0.mk (Kd.R_elder' (Rh HO_3) (Kd.R_base ho3012) hb)
 have n1_ := Aside0.mk (Kd.R_lower (Kd.R_newB (Kd.R_newB (Kd.R_newB (Kd.R_new' ho3012 (Kd.R_lt (Rh HO_3))) (Bh BK322)) (Bh BK332)) (Bh BK351)) (below_size wB))
 have n2_ := Aside0.mk (blk_below (Bh BK322) hb)
 have n3_ := Aside0.mk (blk_below (Bh BK332) hb)
 have n4_ := Aside0.mk (blk_below (Bh BK351) hb)
 have n5_ := Aside0.mk (below_step wB hb)
 clear HO_3
 clear BK322
 clear BK332
 clear BK351
 clear HB
 have HO_3 := n0_
 have HO335 := n1_
 have BK322 := n2_
 have BK332 := n3_
 have BK351 := n4_
 have HB := n5_
 clear n0_ n1_ n2_ n3_ n4_ n5_
 clear hb ho3012
 refine hK.out _ _ ⟨(blk_cell BK332.out 0).trans rfl, (blk_cell BK332.out 1).trans rfl, (blk_cell BK332.out 2).trans rfl, (blk_cell BK332.out 3).trans rfl, (blk_cell BK332.out 4).trans rfl⟩ (fun hHeld => ?_)
 clear hK K
 refine norm_ (a' := ?_) ?_ ?_
 rotate_left
 {
 show Act.put _ (some 108) _ = _
 simp only [Act.put, List.setIfInBounds_toArray, List.set_cons_zero, List.set_cons_succ, i64_w, i32_w]
 rfl
 }
 exact norm_ (by first | (simp only [putAll, Act.put, List.setIfInBounds_toArray, List.set_cons_zero, List.set_cons_succ]; done) | (simp only [putAll, Act.put, List.setIfInBounds_toArray, List.set_cons_zero, List.set_cons_succ]; rfl)) (hJ0_11 (v334, gb351) _ ⟨hHeld, (Kd.R_mono (Rh HO335) (fun _ hk => ⟨hk.1.1.1.2, ⟨hk.1.1.2, ⟨hk.1.2, hk.2⟩⟩⟩)), (Kd.R_mono (Rh HO_3) (fun _ hk => ⟨hk.2, ⟨hk.1.1, ⟨hk.1.2.1, hk.1.2.2⟩⟩⟩)), (Bh BK322), (Bh BK332), (Bh BK351), GW351.out, GE351.out, NB322_351.out, NB351_322.out, NB332_351.out, NB351_332.out, wB⟩)
 }
 {
 skip
 refine Kd.R_lit_step k76 _ 76 ?hg (N := 112) ?hd (xs := ([(⟨(⟨t316, t317⟩ : S74), 167772177, t319, t320⟩ : S76)] : List (S76))) (inner := [.int .i64 t316, .int .i64 t317, .int .i64 167772177, .int .i64 t319, .int .i64 t320]) (ok := fun _ => True) (okp := fun _ => True) ?hr ?hp (fun _ hk => hk) trivial (Below.refl _ _) (Nat.le_refl _) (by simp) ?_; (case hd => rfl); (case hg => rfl); (case hr => first | (go_simp; done) | (go_simp; rfl)); (case hp => exact (Reps.c5 (show Kd.M k76 _ _ _ (⟨(⟨t316, t317⟩ : S74), 167772177, t319, t320⟩ : S76) [.int .i64 t316, .int .i64 t317, .int .i64 167772177, .int .i64 t319, .int .i64 t320] from (k76_mkM _ _ _ (⟨(⟨t316, t317⟩ : S74), 167772177, t319, t320⟩ : S76) )) (Reps.none _ _)))
 intro v340 w3011 ho3012 hb hg_ hnew_
 clear hg_ hnew_
 (first | rw [← Ny339.out] at ho3012 | (simp only [Int.reduceToNat] at ho3012; rw [← Ny339.out] at ho3012))
 have n0_ := Aside0.mk (Kd.R_elder' (Rh HO_3) (Kd.R_base ho3012) hb)
 have n1_ := Aside0.mk (Kd.R_lower (Kd.R_newB (Kd.R_newB (Kd.R_newB (Kd.R_new' ho3012 (Kd.R_lt (Rh HO_3))) (Bh BK322)) (Bh BK332)) (Bh BK351)) (below_size wB))
 have n2_ := Aside0.mk (blk_below (Bh BK322) hb)
 have n3_ := Aside0.mk (blk_below (Bh BK332) hb)
 have n4_ := Aside0.mk (blk_below (Bh BK351) hb)
 have n5_ := Aside0.mk (below_step wB hb)
 clear HO_3
 clear BK322
 clear BK332
 clear BK351
 clear HB
 have HO_3 := n0_
 have HO341 := n1_
 have BK322 := n2_
 have BK332 := n3_
 have BK351 := n4_
 have HB := n5_
 clear n0_ n1_ n2_ n3_ n4_ n5_
 clear hb ho3012
 refine hK.out _ _ ⟨(blk_cell BK332.out 0).trans rfl, (blk_cell BK332.out 1).trans rfl, (blk_cell BK332.out 2).trans rfl, (blk_cell BK332.out 3).trans rfl, (blk_cell BK332.out 4).trans rfl⟩ (fun hHeld => ?_)
 clear hK K
 refine norm_ (a' := ?_) ?_ ?_
 rotate_left
 {
 show Act.put _ (some 112) _ = _
 simp only [Act.put, List.setIfInBounds_toArray, List.set_cons_zero, List.set_cons_succ, i64_w, i32_w]
 rfl
 }
 exact norm_ (by first | (simp only [putAll, Act.put, List.setIfInBounds_toArray, List.set_cons_zero, List.set_cons_succ]; done) | (simp only [putAll, Act.put, List.setIfInBounds_toArray, List.set_cons_zero, List.set_cons_succ]; rfl)) (hJ4_11 (v340, gb351) _ ⟨hHeld, (Kd.R_mono (Rh HO341) (fun _ hk => ⟨hk.1.1.1.2, ⟨hk.1.1.2, ⟨hk.1.2, hk.2⟩⟩⟩)), (Kd.R_mono (Rh HO_3) (fun _ hk => ⟨hk.2, ⟨hk.1.1, ⟨hk.1.2.1, hk.1.2.2⟩⟩⟩)), (Bh BK322), (Bh BK332), (Bh BK351), GW351.out, GE351.out, NB322_351.out, NB351_322.out, NB332_351.out, NB351_332.out, wB⟩)
 }
 }
 }
 {
 skip
 rintro v340 w3011 ⟨hS_, h0_, h1_, h2_, h3_, h4_⟩
 have n0_ : Aside0 (Kd.R k76 76 w3011 w.heap.size (fun k_ => some k_ ≠ (.slice Ao1005 t306.length co1005 : Value).ownBlock ∧ k_ ≠ gb322 ∧ k_ ≠ gb332) v340 y339) := ⟨h0_⟩
 have n1_ : Aside0 (Kd.R k76 76 w3011 w.heap.size (fun k_ => some k_ ≠ (v340 : Value).ownBlock ∧ k_ ≠ gb322 ∧ k_ ≠ gb332) (.slice Ao1005 t306.length co1005) t306) := ⟨h1_⟩
 have n2_ : Aside0 (w3011.heap[gb322]? = some (.cells #[.int .i64 t316, .int .i64 t317, .int .i64 t318, .int .i64 t319, .int .i64 t320] 76 (0, 0))) := ⟨h2_⟩
 have n3_ : Aside0 (w3011.heap[gb332]? = some (.cells #[.int .i64 t316, .int .i64 t317, .int .i64 167772177, .int .i64 t319, .int .i64 t320] 76 (0, 0))) := ⟨h3_⟩
 have n4_ : Aside0 (Below w.heap.size w w3011) := ⟨h4_⟩
 clear HO_3
 clear BK322
 clear BK332
 clear HB
 clear h0_ h1_ h2_ h3_ h4_
 have HO341 := n0_
 have HO_3 := n1_
 have BK322 := n2_
 have BK332 := n3_
 have HB := n4_
 clear n0_ n1_ n2_ n3_ n4_
 have hHeld : w3011.cell? ⟨gb332, 0, none⟩ = some (.int .i64 t316) ∧ w3011.cell? ⟨gb332, 1, none⟩ = some (.int .i64 t317) ∧ w3011.cell? ⟨gb332, 2, none⟩ = some (.int .i64 167772177) ∧ w3011.cell? ⟨gb332, 3, none⟩ = some (.int .i64 t319) ∧ w3011.cell? ⟨gb332, 4, none⟩ = some (.int .i64 t320) := hS_
 refine norm_ (a' := ?_) ?_ ?_
 rotate_left
 {
 simp only [putAll, Act.put, List.setIfInBounds_toArray, List.set_cons_zero, List.set_cons_succ]
 rfl
 }
 refine two_ (i := 0) (j := 11) (Ni := some 108) (Nj := some 14) #[true, true, false, true, true, false, true, false, false, false, false, false, false, false] #[false, true, false, true, true, false, true, false, false, false, false, true, false, false] rfl rfl rfl rfl (two_of HT_.out (by kernel_rfl)) (by decide) (by decide) (fun K hK => ?_) (fun K hK => ?_)
 {
 skip
 refine Kd.R_lit_step k76 _ 76 ?hg (N := 108) ?hd (xs := ([] : List (S76))) (inner := []) (ok := fun _ => True) (okp := fun _ => True) ?hr ?hp (fun _ hk => hk) trivial (Below.refl _ _) (Nat.le_refl _) (by simp) ?_; (case hd => rfl); (case hg => rfl); (case hr => first | (go_simp; done) | (go_simp; rfl)); (case hp => exact (Reps.none _ _))
 intro v334 w3012 ho3013 hb hg_ hnew_
 clear hg_ hnew_
 (first | rw [← Ny333.out] at ho3013 | (simp only [Int.reduceToNat] at ho3013; rw [← Ny333.out] at ho3013))
 have n0_ := Aside0.mk (Kd.R_elder' (Rh HO_3) (Kd.R_base ho3013) hb)
 have n1_ := Aside0.mk (Kd.R_elder' (Rh HO341) (Kd.R_base ho3013) hb)
 have n2_ := Aside0.mk (Kd.R_lower (Kd.R_newB (Kd.R_newB (Kd.R_new' (Kd.R_new' ho3013 (Kd.R_lt (Rh HO_3))) (Kd.R_lt (Rh HO341))) (Bh BK322)) (Bh BK332)) (below_size wB))
 have n3_ := Aside0.mk (blk_below (Bh BK322) hb)
 have n4_ := Aside0.mk (blk_below (Bh BK332) hb)
 have n5_ := Aside0.mk (below_step wB hb)
 clear HO_3
 clear HO341
 clear BK322
 clear BK332
 clear HB
 have HO_3 := n0_
 have HO341 := n1_
 have HO335 := n2_
 have BK322 := n3_
 have BK332 := n4_
 have HB := n5_
 clear n0_ n1_ n2_ n3_ n4_ n5_
 clear hb ho3013
 refine hK.out _ _ ⟨(blk_cell BK332.out 0).trans rfl, (blk_cell BK332.out 1).trans rfl, (blk_cell BK332.out 2).trans rfl, (blk_cell BK332.out 3).trans rfl, (blk_cell BK332.out 4).trans rfl⟩ (fun hHeld => ?_)
 clear hK K
 refine norm_ (a' := ?_) ?_ ?_
 rotate_left
 {
 show Act.put _ (some 108) _ = _
 simp only [Act.put, List.setIfInBounds_toArray, List.set_cons_zero, List.set_cons_succ, i64_w, i32_w]
 rfl
 }
 exact norm_ (by first | (simp only [putAll, Act.put, List.setIfInBounds_toArray, List.set_cons_zero, List.set_cons_succ]; done) | (simp only [putAll, Act.put, List.setIfInBounds_toArray, List.set_cons_zero, List.set_cons_succ]; rfl)) (hJ0_4 (v334, v340) _ ⟨hHeld, (Kd.R_mono (Rh HO335) (fun _ hk => ⟨hk.1.1.2, ⟨hk.1.1.1.2, ⟨hk.1.2, hk.2⟩⟩⟩)), (Kd.R_mono (Rh HO341) (fun _ hk => ⟨hk.2, ⟨hk.1.1, ⟨hk.1.2.1, hk.1.2.2⟩⟩⟩)), (Kd.R_mono (Rh HO_3) (fun _ hk => ⟨hk.2, ⟨hk.1.1, ⟨hk.1.2.1, hk.1.2.2⟩⟩⟩)), (Bh BK322), (Bh BK332), wB⟩)
 }
 {
 skip
 refine box_step ?hg (N := 14) ?hd (cs := #[.int .i64 0, .int .i64 0, .int .i64 0, .int .i64 0, .int .i64 0]) (t := 76) ?hr ?_; (case hd => rfl); (case hg => rfl); (case hr => first | (go_simp; done) | (go_simp; rfl))
 intro gb351 hg w3012 hbox hb
 have n0_ := Aside0.mk (Kd.R_below (Kd.R_elderB (Rh HO_3) gb351 (Nat.le_of_eq hg.symm)) hb)
 have n1_ := Aside0.mk (Kd.R_below (Kd.R_elderB (Rh HO341) gb351 (Nat.le_of_eq hg.symm)) hb)
 have n2_ := Aside0.mk (blk_below (Bh BK322) hb)
 have n3_ := Aside0.mk (blk_below (Bh BK332) hb)
 have n4_ := Aside0.mk (below_step wB hb)
 have n5_ := Aside0.mk (hbox)
 have n6_ := Aside0.mk ((by rw [hg]; exact (below_size wB) : w.heap.size ≤ gb351))
 have n7_ := Aside0.mk ((by rw [hg]; exact (below_size wB) : w.heap.size ≤ gb351))
 have n8_ := Aside0.mk ((by rw [hg]; exact Nat.ne_of_lt (blk_lt (Bh BK322)) : gb322 ≠ gb351))
 have n9_ := Aside0.mk ((by rw [hg]; exact Nat.ne_of_gt (blk_lt (Bh BK322)) : gb351 ≠ gb322))
 have n10_ := Aside0.mk ((by rw [hg]; exact Nat.ne_of_lt (blk_lt (Bh BK332)) : gb332 ≠ gb351))
 have n11_ := Aside0.mk ((by rw [hg]; exact Nat.ne_of_gt (blk_lt (Bh BK332)) : gb351 ≠ gb332))
 clear HO_3
 clear HO341
 clear BK322
 clear BK332
 clear HB
 have HO_3 := n0_
 have HO341 := n1_
 have BK322 := n2_
 have BK332 := n3_
 have HB := n4_
 have BK351 := n5_
 have GW351 := n6_
 have GE351 := n7_
 have NB322_351 := n8_
 have NB351_322 := n9_
 have NB332_351 := n10_
 have NB351_332 := n11_
 clear n0_ n1_ n2_ n3_ n4_ n5_ n6_ n7_ n8_ n9_ n10_ n11_
 clear hb hbox hg
 refine hK.out _ _ ⟨(blk_cell BK332.out 0).trans rfl, (blk_cell BK332.out 1).trans rfl, (blk_cell BK332.out 2).trans rfl, (blk_cell BK332.out 3).trans rfl, (blk_cell BK332.out 4).trans rfl⟩ (fun hHeld => ?_)
 clear hK K
 refine norm_ (a' := ?_) ?_ ?_
 rotate_left
 {
 show Act.put _ (some 14) _ = _
 simp only [Act.put, List.setIfInBounds_toArray, List.set_cons_zero, List.set_cons_succ, i64_w, i32_w]
 rfl
 }
 exact norm_ (by first | (simp only [putAll, Act.put, List.setIfInBounds_toArray, List.set_cons_zero, List.set_cons_succ]; done) | (simp only [putAll, Act.put, List.setIfInBounds_toArray, List.set_cons_zero, List.set_cons_succ]; rfl)) (hJ4_11 (v340, gb351) _ ⟨hHeld, (Kd.R_mono (Rh HO341) (fun _ hk => ⟨hk.1.1, ⟨hk.1.2.1, ⟨hk.1.2.2, hk.2⟩⟩⟩)), (Kd.R_mono (Rh HO_3) (fun _ hk => ⟨hk.1.1, ⟨hk.1.2.1, ⟨hk.1.2.2, hk.2⟩⟩⟩)), (Bh BK322), (Bh BK332), (Bh BK351), GW351.out, GE351.out, NB322_351.out, NB351_322.out, NB332_351.out, NB351_332.out, wB⟩)
 }
 }
 }
 {
 skip
 rintro v334 w3011 ⟨hS_, h0_, h1_, h2_, h3_, h4_⟩
 have n0_ : Aside0 (Kd.R k76 76 w3011 w.heap.size (fun k_ => some k_ ≠ (.slice Ao1005 t306.length co1005 : Value).ownBlock ∧ k_ ≠ gb322 ∧ k_ ≠ gb332) v334 y333) := ⟨h0_⟩
 have n1_ : Aside0 (Kd.R k76 76 w3011 w.heap.size (fun k_ => some k_ ≠ (v334 : Value).ownBlock ∧ k_ ≠ gb322 ∧ k_ ≠ gb332) (.slice Ao1005 t306.length co1005) t306) := ⟨h1_⟩
 have n2_ : Aside0 (w3011.heap[gb322]? = some (.cells #[.int .i64 t316, .int .i64 t317, .int .i64 t318, .int .i64 t319, .int .i64 t320] 76 (0, 0))) := ⟨h2_⟩
 have n3_ : Aside0 (w3011.heap[gb332]? = some (.cells #[.int .i64 t316, .int .i64 t317, .int .i64 167772177, .int .i64 t319, .int .i64 t320] 76 (0, 0))) := ⟨h3_⟩
 have n4_ : Aside0 (Below w.heap.size w w3011) := ⟨h4_⟩
 clear HO_3
 clear BK322
 clear BK332
 clear HB
 clear h0_ h1_ h2_ h3_ h4_
 have HO335 := n0_
 have HO_3 := n1_
 have BK322 := n2_
 have BK332 := n3_
 have HB := n4_
 clear n0_ n1_ n2_ n3_ n4_
 have hHeld : w3011.cell? ⟨gb332, 0, none⟩ = some (.int .i64 t316) ∧ w3011.cell? ⟨gb332, 1, none⟩ = some (.int .i64 t317) ∧ w3011.cell? ⟨gb332, 2, none⟩ = some (.int .i64 167772177) ∧ w3011.cell? ⟨gb332, 3, none⟩ = some (.int .i64 t319) ∧ w3011.cell? ⟨gb332, 4, none⟩ = some (.int .i64 t320) := hS_
 refine norm_ (a' := ?_) ?_ ?_
 rotate_left
 {
 simp only [putAll, Act.put, List.setIfInBounds_toArray, List.set_cons_zero, List.set_cons_succ]
 rfl
 }
 refine three_ (i := 2) (j := 4) (k := 11) (Ni := some 110) (Nj := some 112) (Nk := some 14) #[true, true, true, true, false, false, true, false, false, false, false, false, false, false] #[true, true, false, true, true, false, true, false, false, false, false, false, false, false] #[true, true, false, true, false, false, true, false, false, false, false, true, false, false] rfl rfl rfl rfl rfl rfl (three_of HT_.out (by kernel_rfl)) (by decide) (by decide) (by decide) (fun K hK => ?_) (fun K hK => ?_) (fun K hK => ?_)
 {
 skip
 refine Kd.R_append_rows_step k76 (w0 := w) w.heap.size (by rfl) (.tmp 108) (.tmp 109) 70 76 (.agg #[(.int .i64 0), (.int .i64 0), (.int .i64 0), (.int .i64 0), (.int .i64 0)]) 40 rfl Try.underlying70 info76 rfl (by decide) (by omega) v334 y333 t306 _ _ _ (fun k_ => some k_ ≠ (.slice Ao1005 t306.length co1005 : Value).ownBlock ∧ k_ ≠ gb322 ∧ k_ ≠ gb332) (fun _ => False) rfl rfl ?aO ?aR (fun _ _ h => h) (fun _ h => h.elim) ?aF ?aB ?aS ?aL ?_
 (case aR => exact Ch HO_3)
 (case aB => exact wB)
 (case aF => exact (fun k_ hk => ⟨Kd.fresh' (Kd.R_lt (Rh HO_3)) k_ hk, Kd.freshB (Bh BK322) k_ hk, Kd.freshB (Bh BK332) k_ hk⟩))
 (case aO => exact (Rh HO335))
 (case aS => exact (below_size wB))
 (case aL => have := LMc2005.out; omega)
 intro v337 w3012 ho hb hg hat
 rw [← Ny336.out] at ho
 have n0_ := Aside0.mk (Kd.R_after (ok := (fun k_ => k_ ≠ gb322 ∧ k_ ≠ gb332)) (Kd.R_mono (Rh HO_3) (fun _ hk => ⟨⟨hk.2.1, hk.2.2⟩, hk.1⟩)) hg hat)
 have n1_ := Aside0.mk (blk_grown (Bh BK322) hg (Kd.R_away HO335.out (fun _ hk => hk.2.1)))
 have n2_ := Aside0.mk (blk_grown (Bh BK332) hg (Kd.R_away HO335.out (fun _ hk => hk.2.2)))
 have n3_ := Aside0.mk (hb)
 have n4_ := Aside0.mk (ho)
 clear HO_3
 clear BK322
 clear BK332
 clear HB
 clear HO335
 have HO_3 := n0_
 have BK322 := n1_
 have BK332 := n2_
 have HB := n3_
 have HO338 := n4_
 clear n0_ n1_ n2_ n3_ n4_
 clear ho hb hg hat
 refine hK.out _ _ ⟨(blk_cell BK332.out 0).trans rfl, (blk_cell BK332.out 1).trans rfl, (blk_cell BK332.out 2).trans rfl, (blk_cell BK332.out 3).trans rfl, (blk_cell BK332.out 4).trans rfl⟩ (fun hHeld => ?_)
 clear hK K
 refine norm_ (a' := ?_) ?_ ?_
 rotate_left
 {
 show Act.put _ (some 110) _ = _
 simp only [Act.put, List.setIfInBounds_toArray, List.set_cons_zero, List.set_cons_succ, i64_w, i32_w]
 rfl
 }
 exact norm_ (by first | (simp only [putAll, Act.put, List.setIfInBounds_toArray, List.set_cons_zero, List.set_cons_succ]; done) | (simp only [putAll, Act.put, List.setIfInBounds_toArray, List.set_cons_zero, List.set_cons_succ]; rfl)) (hJ0_2 (v334, v337) _ ⟨hHeld, (Rh HO338), (Kd.R_mono (Rh HO_3) (fun _ hk => ⟨hk.2, ⟨hk.1.1, hk.1.2⟩⟩)), (Bh BK322), (Bh BK332), wB⟩)
 }
 {
 skip
 refine Kd.R_lit_step k76 _ 76 ?hg (N := 112) ?hd (xs := ([(⟨(⟨t316, t317⟩ : S74), 167772177, t319, t320⟩ : S76)] : List (S76))) (inner := [.int .i64 t316, .int .i64 t317, .int .i64 167772177, .int .i64 t319, .int .i64 t320]) (ok := fun _ => True) (okp := fun _ => True) ?hr ?hp (fun _ hk => hk) trivial (Below.refl _ _) (Nat.le_refl _) (by simp) ?_; (case hd => rfl); (case hg => rfl); (case hr => first | (go_simp; done) | (go_simp; rfl)); (case hp => exact (Reps.c5 (show Kd.M k76 _ _ _ (⟨(⟨t316, t317⟩ : S74), 167772177, t319, t320⟩ : S76) [.int .i64 t316, .int .i64 t317, .int .i64 167772177, .int .i64 t319, .int .i64 t320] from (k76_mkM _ _ _ (⟨(⟨t316, t317⟩ : S74), 167772177, t319, t320⟩ : S76) )) (Reps.none _ _)))
 intro v340 w3012 ho3013 hb hg_ hnew_
 clear hg_ hnew_
 (first | rw [← Ny339.out] at ho3013 | (simp only [Int.reduceToNat] at ho3013; rw [← Ny339.out] at ho3013))
 have n0_ := Aside0.mk (Kd.R_elder' (Rh HO_3) (Kd.R_base ho3013) hb)
 have n1_ := Aside0.mk (Kd.R_elder' (Rh HO335) (Kd.R_base ho3013) hb)
 have n2_ := Aside0.mk (Kd.R_lower (Kd.R_newB (Kd.R_newB (Kd.R_new' (Kd.R_new' ho3013 (Kd.R_lt (Rh HO_3))) (Kd.R_lt (Rh HO335))) (Bh BK322)) (Bh BK332)) (below_size wB))
 have n3_ := Aside0.mk (blk_below (Bh BK322) hb)
 have n4_ := Aside0.mk (blk_below (Bh BK332) hb)
 have n5_ := Aside0.mk (below_step wB hb)
 clear HO_3
 clear HO335
 clear BK322
 clear BK332
 clear HB
 have HO_3 := n0_
 have HO335 := n1_
 have HO341 := n2_
 have BK322 := n3_
 have BK332 := n4_
 have HB := n5_
 clear n0_ n1_ n2_ n3_ n4_ n5_
 clear hb ho3013
 refine hK.out _ _ ⟨(blk_cell BK332.out 0).trans rfl, (blk_cell BK332.out 1).trans rfl, (blk_cell BK332.out 2).trans rfl, (blk_cell BK332.out 3).trans rfl, (blk_cell BK332.out 4).trans rfl⟩ (fun hHeld => ?_)
 clear hK K
 refine norm_ (a' := ?_) ?_ ?_
 rotate_left
 {
 show Act.put _ (some 112) _ = _
 simp only [Act.put, List.setIfInBounds_toArray, List.set_cons_zero, List.set_cons_succ, i64_w, i32_w]
 rfl
 }
 exact norm_ (by first | (simp only [putAll, Act.put, List.setIfInBounds_toArray, List.set_cons_zero, List.set_cons_succ]; done) | (simp only [putAll, Act.put, List.setIfInBounds_toArray, List.set_cons_zero, List.set_cons_succ]; rfl)) (hJ0_4 (v334, v340) _ ⟨hHeld, (Kd.R_mono (Rh HO335) (fun _ hk => ⟨hk.2, ⟨hk.1.1, ⟨hk.1.2.1, hk.1.2.2⟩⟩⟩)), (Kd.R_mono (Rh HO341) (fun _ hk => ⟨hk.1.1.2, ⟨hk.1.1.1.2, ⟨hk.1.2, hk.2⟩⟩⟩)), (Kd.R_mono (Rh HO_3) (fun _ hk => ⟨hk.1.1, ⟨hk.2, ⟨hk.1.2.1, hk.1.2.2⟩⟩⟩)), (Bh BK322), (Bh BK332), wB⟩)
 }
 {
 skip
 refine box_step ?hg (N := 14) ?hd (cs := #[.int .i64 0, .int .i64 0, .int .i64 0, .int .i64 0, .int .i64 0]) (t := 76) ?hr ?_; (case hd => rfl); (case hg => rfl); (case hr => first | (go_simp; done) | (go_simp; rfl))
 intro gb351 hg w3012 hbox hb
 have n0_ := Aside0.mk (Kd.R_below (Kd.R_elderB (Rh HO_3) gb351 (Nat.le_of_eq hg.symm)) hb)
 have n1_ := Aside0.mk (Kd.R_below (Kd.R_elderB (Rh HO335) gb351 (Nat.le_of_eq hg.symm)) hb)
 have n2_ := Aside0.mk (blk_below (Bh BK322) hb)
 have n3_ := Aside0.mk (blk_below (Bh BK332) hb)
 have n4_ := Aside0.mk (below_step wB hb)
 have n5_ := Aside0.mk (hbox)
 have n6_ := Aside0.mk ((by rw [hg]; exact (below_size wB) : w.heap.size ≤ gb351))
 have n7_ := Aside0.mk ((by rw [hg]; exact (below_size wB) : w.heap.size ≤ gb351))
 have n8_ := Aside0.mk ((by rw [hg]; exact Nat.ne_of_lt (blk_lt (Bh BK322)) : gb322 ≠ gb351))
 have n9_ := Aside0.mk ((by rw [hg]; exact Nat.ne_of_gt (blk_lt (Bh BK322)) : gb351 ≠ gb322))
 have n10_ := Aside0.mk ((by rw [hg]; exact Nat.ne_of_lt (blk_lt (Bh BK332)) : gb332 ≠ gb351))
 have n11_ := Aside0.mk ((by rw [hg]; exact Nat.ne_of_gt (blk_lt (Bh BK332)) : gb351 ≠ gb332))
 clear HO_3
 clear HO335
 clear BK322
 clear BK332
 clear HB
 have HO_3 := n0_
 have HO335 := n1_
 have BK322 := n2_
 have BK332 := n3_
 have HB := n4_
 have BK351 := n5_
 have GW351 := n6_
 have GE351 := n7_
 have NB322_351 := n8_
 have NB351_322 := n9_
 have NB332_351 := n10_
 have NB351_332 := n11_
 clear n0_ n1_ n2_ n3_ n4_ n5_ n6_ n7_ n8_ n9_ n10_ n11_
 clear hb hbox hg
 refine hK.out _ _ ⟨(blk_cell BK332.out 0).trans rfl, (blk_cell BK332.out 1).trans rfl, (blk_cell BK332.out 2).trans rfl, (blk_cell BK332.out 3).trans rfl, (blk_cell BK332.out 4).trans rfl⟩ (fun hHeld => ?_)
 clear hK K
 refine norm_ (a' := ?_) ?_ ?_
 rotate_left
 {
 show Act.put _ (some 14) _ = _
 simp only [Act.put, List.setIfInBounds_toArray, List.set_cons_zero, List.set_cons_succ, i64_w, i32_w]
 rfl
 }
 exact norm_ (by first | (simp only [putAll, Act.put, List.setIfInBounds_toArray, List.set_cons_zero, List.set_cons_succ]; done) | (simp only [putAll, Act.put, List.setIfInBounds_toArray, List.set_cons_zero, List.set_cons_succ]; rfl)) (hJ0_11 (v334, gb351) _ ⟨hHeld, (Kd.R_mono (Rh HO335) (fun _ hk => ⟨hk.1.1, ⟨hk.1.2.1, ⟨hk.1.2.2, hk.2⟩⟩⟩)), (Kd.R_mono (Rh HO_3) (fun _ hk => ⟨hk.1.1, ⟨hk.1.2.1, ⟨hk.1.2.2, hk.2⟩⟩⟩)), (Bh BK322), (Bh BK332), (Bh BK351), GW351.out, GE351.out, NB322_351.out, NB351_322.out, NB332_351.out, NB351_332.out, wB⟩)
 }
 }
 }
 {
 skip
 rintro ⟨v340, gb351⟩ w3012 ⟨hS_, h0_, h1_, h2_, h3_, h4_, h5_, h6_, h7_, h8_, h9_, h10_, h11_⟩
 have n0_ : Aside0 (Kd.R k76 76 w3012 w.heap.size (fun k_ => some k_ ≠ (.slice Ao1005 t306.length co1005 : Value).ownBlock ∧ k_ ≠ gb322 ∧ k_ ≠ gb332 ∧ k_ ≠ gb351) v340 y339) := ⟨h0_⟩
 have n1_ : Aside0 (Kd.R k76 76 w3012 w.heap.size (fun k_ => some k_ ≠ (v340 : Value).ownBlock ∧ k_ ≠ gb322 ∧ k_ ≠ gb332 ∧ k_ ≠ gb351) (.slice Ao1005 t306.length co1005) t306) := ⟨h1_⟩
 have n2_ : Aside0 (w3012.heap[gb322]? = some (.cells #[.int .i64 t316, .int .i64 t317, .int .i64 t318, .int .i64 t319, .int .i64 t320] 76 (0, 0))) := ⟨h2_⟩
 have n3_ : Aside0 (w3012.heap[gb332]? = some (.cells #[.int .i64 t316, .int .i64 t317, .int .i64 167772177, .int .i64 t319, .int .i64 t320] 76 (0, 0))) := ⟨h3_⟩
 have n4_ : Aside0 (w3012.heap[gb351]? = some (.cells #[.int .i64 0, .int .i64 0, .int .i64 0, .int .i64 0, .int .i64 0] 76 (0, 0))) := ⟨h4_⟩
 have n5_ : Aside0 (w.heap.size ≤ gb351) := ⟨h5_⟩
 have n6_ : Aside0 (w.heap.size ≤ gb351) := ⟨h6_⟩
 have n7_ : Aside0 (gb322 ≠ gb351) := ⟨h7_⟩
 have n8_ : Aside0 (gb351 ≠ gb322) := ⟨h8_⟩
 have n9_ : Aside0 (gb332 ≠ gb351) := ⟨h9_⟩
 have n10_ : Aside0 (gb351 ≠ gb332) := ⟨h10_⟩
 have n11_ : Aside0 (Below w.heap.size w w3012) := ⟨h11_⟩
 clear HO_3
 clear BK322
 clear BK332
 clear HB
 clear h0_ h1_ h2_ h3_ h4_ h5_ h6_ h7_ h8_ h9_ h10_ h11_
 have HO341 := n0_
 have HO_3 := n1_
 have BK322 := n2_
 have BK332 := n3_
 have BK351 := n4_
 have GW351 := n5_
 have GE351 := n6_
 have NB322_351 := n7_
 have NB351_322 := n8_
 have NB332_351 := n9_
 have NB351_332 := n10_
 have HB := n11_
 clear n0_ n1_ n2_ n3_ n4_ n5_ n6_ n7_ n8_ n9_ n10_ n11_
 have hHeld : w3012.cell? ⟨gb332, 0, none⟩ = some (.int .i64 t316) ∧ w3012.cell? ⟨gb332, 1, none⟩ = some (.int .i64 t317) ∧ w3012.cell? ⟨gb332, 2, none⟩ = some (.int .i64 167772177) ∧ w3012.cell? ⟨gb332, 3, none⟩ = some (.int .i64 t319) ∧ w3012.cell? ⟨gb332, 4, none⟩ = some (.int .i64 t320) := hS_
 refine norm_ (a' := ?_) ?_ ?_
 rotate_left
 {
 simp only [putAll, Act.put, List.setIfInBounds_toArray, List.set_cons_zero, List.set_cons_succ]
 rfl
 }
 refine one_ (i := 0) (N := some 108) #[true, true, false, true, true, false, true, false, false, false, false, true, false, false] rfl rfl (one_of HT_.out (by kernel_rfl)) (by decide) (fun K hK => ?_)
 refine Kd.R_lit_step k76 _ 76 ?hg (N := 108) ?hd (xs := ([] : List (S76))) (inner := []) (ok := fun _ => True) (okp := fun _ => True) ?hr ?hp (fun _ hk => hk) trivial (Below.refl _ _) (Nat.le_refl _) (by simp) ?_; (case hd => rfl); (case hg => rfl); (case hr => first | (go_simp; done) | (go_simp; rfl)); (case hp => exact (Reps.none _ _))
 intro v334 w3013 ho3014 hb hg_ hnew_
 clear hg_ hnew_
 (first | rw [← Ny333.out] at ho3014 | (simp only [Int.reduceToNat] at ho3014; rw [← Ny333.out] at ho3014))
 have n0_ := Aside0.mk (Kd.R_elder' (Rh HO_3) (Kd.R_base ho3014) hb)
 have n1_ := Aside0.mk (Kd.R_elder' (Rh HO341) (Kd.R_base ho3014) hb)
 have n2_ := Aside0.mk (Kd.R_lower (Kd.R_newB (Kd.R_newB (Kd.R_newB (Kd.R_new' (Kd.R_new' ho3014 (Kd.R_lt (Rh HO_3))) (Kd.R_lt (Rh HO341))) (Bh BK322)) (Bh BK332)) (Bh BK351)) (below_size wB))
 have n3_ := Aside0.mk (blk_below (Bh BK322) hb)
 have n4_ := Aside0.mk (blk_below (Bh BK332) hb)
 have n5_ := Aside0.mk (blk_below (Bh BK351) hb)
 have n6_ := Aside0.mk (below_step wB hb)
 clear HO_3
 clear HO341
 clear BK322
 clear BK332
 clear BK351
 clear HB
 have HO_3 := n0_
 have HO341 := n1_
 have HO335 := n2_
 have BK322 := n3_
 have BK332 := n4_
 have BK351 := n5_
 have HB := n6_
 clear n0_ n1_ n2_ n3_ n4_ n5_ n6_
 clear hb ho3014
 refine hK.out _ _ ⟨(blk_cell BK332.out 0).trans rfl, (blk_cell BK332.out 1).trans rfl, (blk_cell BK332.out 2).trans rfl, (blk_cell BK332.out 3).trans rfl, (blk_cell BK332.out 4).trans rfl⟩ (fun hHeld => ?_)
 clear hK K
 refine norm_ (a' := ?_) ?_ ?_
 rotate_left
 {
 show Act.put _ (some 108) _ = _
 simp only [Act.put, List.setIfInBounds_toArray, List.set_cons_zero, List.set_cons_succ, i64_w, i32_w]
 rfl
 }
 exact norm_ (by first | (simp only [putAll, Act.put, List.setIfInBounds_toArray, List.set_cons_zero, List.set_cons_succ]; done) | (simp only [putAll, Act.put, List.setIfInBounds_toArray, List.set_cons_zero, List.set_cons_succ]; rfl)) (hJ0_4_11 (v334, v340, gb351) _ ⟨hHeld, (Kd.R_mono (Rh HO335) (fun _ hk => ⟨hk.1.1.1.2, ⟨hk.1.1.1.1.2, ⟨hk.1.1.2, ⟨hk.1.2, hk.2⟩⟩⟩⟩)), (Kd.R_mono (Rh HO341) (fun _ hk => ⟨hk.2, ⟨hk.1.1, ⟨hk.1.2.1, ⟨hk.1.2.2.1, hk.1.2.2.2⟩⟩⟩⟩)), (Kd.R_mono (Rh HO_3) (fun _ hk => ⟨hk.2, ⟨hk.1.1, ⟨hk.1.2.1, ⟨hk.1.2.2.1, hk.1.2.2.2⟩⟩⟩⟩)), (Bh BK322), (Bh BK332), (Bh BK351), GW351.out, GE351.out, NB322_351.out, NB351_322.out, NB332_351.out, NB351_332.out, wB⟩)
 }
 }
 {
 skip
 rintro ⟨v334, gb351⟩ w3012 ⟨hS_, h0_, h1_, h2_, h3_, h4_, h5_, h6_, h7_, h8_, h9_, h10_, h11_⟩
 have n0_ : Aside0 (Kd.R k76 76 w3012 w.heap.size (fun k_ => some k_ ≠ (.slice Ao1005 t306.length co1005 : Value).ownBlock ∧ k_ ≠ gb322 ∧ k_ ≠ gb332 ∧ k_ ≠ gb351) v334 y333) := ⟨h0_⟩
 have n1_ : Aside0 (Kd.R k76 76 w3012 w.heap.size (fun k_ => some k_ ≠ (v334 : Value).ownBlock ∧ k_ ≠ gb322 ∧ k_ ≠ gb332 ∧ k_ ≠ gb351) (.slice Ao1005 t306.length co1005) t306) := ⟨h1_⟩
 have n2_ : Aside0 (w3012.heap[gb322]? = some (.cells #[.int .i64 t316, .int .i64 t317, .int .i64 t318, .int .i64 t319, .int .i64 t320] 76 (0, 0))) := ⟨h2_⟩
 have n3_ : Aside0 (w3012.heap[gb332]? = some (.cells #[.int .i64 t316, .int .i64 t317, .int .i64 167772177, .int .i64 t319, .int .i64 t320] 76 (0, 0))) := ⟨h3_⟩
 have n4_ : Aside0 (w3012.heap[gb351]? = some (.cells #[.int .i64 0, .int .i64 0, .int .i64 0, .int .i64 0, .int .i64 0] 76 (0, 0))) := ⟨h4_⟩
 have n5_ : Aside0 (w.heap.size ≤ gb351) := ⟨h5_⟩
 have n6_ : Aside0 (w.heap.size ≤ gb351) := ⟨h6_⟩
 have n7_ : Aside0 (gb322 ≠ gb351) := ⟨h7_⟩
 have n8_ : Aside0 (gb351 ≠ gb322) := ⟨h8_⟩
 have n9_ : Aside0 (gb332 ≠ gb351) := ⟨h9_⟩
 have n10_ : Aside0 (gb351 ≠ gb332) := ⟨h10_⟩
 have n11_ : Aside0 (Below w.heap.size w w3012) := ⟨h11_⟩
 clear HO_3
 clear BK322
 clear BK332
 clear HB
 clear h0_ h1_ h2_ h3_ h4_ h5_ h6_ h7_ h8_ h9_ h10_ h11_
 have HO335 := n0_
 have HO_3 := n1_
 have BK322 := n2_
 have BK332 := n3_
 have BK351 := n4_
 have GW351 := n5_
 have GE351 := n6_
 have NB322_351 := n7_
 have NB351_322 := n8_
 have NB332_351 := n9_
 have NB351_332 := n10_
 have HB := n11_
 clear n0_ n1_ n2_ n3_ n4_ n5_ n6_ n7_ n8_ n9_ n10_ n11_
 have hHeld : w3012.cell? ⟨gb332, 0, none⟩ = some (.int .i64 t316) ∧ w3012.cell? ⟨gb332, 1, none⟩ = some (.int .i64 t317) ∧ w3012.cell? ⟨gb332, 2, none⟩ = some (.int .i64 167772177) ∧ w3012.cell? ⟨gb332, 3, none⟩ = some (.int .i64 t319) ∧ w3012.cell? ⟨gb332, 4, none⟩ = some (.int .i64 t320) := hS_
 refine norm_ (a' := ?_) ?_ ?_
 rotate_left
 {
 simp only [putAll, Act.put, List.setIfInBounds_toArray, List.set_cons_zero, List.set_cons_succ]
 rfl
 }
 refine two_ (i := 2) (j := 4) (Ni := some 110) (Nj := some 112) #[true, true, true, true, false, false, true, false, false, false, false, true, false, false] #[true, true, false, true, true, false, true, false, false, false, false, true, false, false] rfl rfl rfl rfl (two_of HT_.out (by kernel_rfl)) (by decide) (by decide) (fun K hK => ?_) (fun K hK => ?_)
 {
 skip
 refine Kd.R_append_rows_step k76 (w0 := w) w.heap.size (by rfl) (.tmp 108) (.tmp 109) 70 76 (.agg #[(.int .i64 0), (.int .i64 0), (.int .i64 0), (.int .i64 0), (.int .i64 0)]) 40 rfl Try.underlying70 info76 rfl (by decide) (by omega) v334 y333 t306 _ _ _ (fun k_ => some k_ ≠ (.slice Ao1005 t306.length co1005 : Value).ownBlock ∧ k_ ≠ gb322 ∧ k_ ≠ gb332 ∧ k_ ≠ gb351) (fun _ => False) rfl rfl ?aO ?aR (fun _ _ h => h) (fun _ h => h.elim) ?aF ?aB ?aS ?aL ?_
 (case aR => exact Ch HO_3)
 (case aB => exact wB)
 (case aF => exact (fun k_ hk => ⟨Kd.fresh' (Kd.R_lt (Rh HO_3)) k_ hk, Kd.freshB (Bh BK322) k_ hk, Kd.freshB (Bh BK332) k_ hk, Kd.freshB (Bh BK351) k_ hk⟩))
 (case aO => exact (Rh HO335))
 (case aS => exact (below_size wB))
 (case aL => have := LMc2005.out; omega)
 intro v337 w3013 ho hb hg hat
 rw [← Ny336.out] at ho
 have n0_ := Aside0.mk (Kd.R_after (ok := (fun k_ => k_ ≠ gb322 ∧ k_ ≠ gb332 ∧ k_ ≠ gb351)) (Kd.R_mono (Rh HO_3) (fun _ hk => ⟨⟨hk.2.1, ⟨hk.2.2.1, hk.2.2.2⟩⟩, hk.1⟩)) hg hat)
 have n1_ := Aside0.mk (blk_grown (Bh BK322) hg (Kd.R_away HO335.out (fun _ hk => hk.2.1)))
 have n2_ := Aside0.mk (blk_grown (Bh BK332) hg (Kd.R_away HO335.out (fun _ hk => hk.2.2.1)))
 have n3_ := Aside0.mk (blk_grown (Bh BK351) hg (Kd.R_away HO335.out (fun _ hk => hk.2.2.2)))
 have n4_ := Aside0.mk (hb)
 have n5_ := Aside0.mk (ho)
 clear HO_3
 clear BK322
 clear BK332
 clear BK351
 clear HB
 clear HO335
 have HO_3 := n0_
 have BK322 := n1_
 have BK332 := n2_
 have BK351 := n3_
 have HB := n4_
 have HO338 := n5_
 clear n0_ n1_ n2_ n3_ n4_ n5_
 clear ho hb hg hat
 refine hK.out _ _ ⟨(blk_cell BK332.out 0).trans rfl, (blk_cell BK332.out 1).trans rfl, (blk_cell BK332.out 2).trans rfl, (blk_cell BK332.out 3).trans rfl, (blk_cell BK332.out 4).trans rfl⟩ (fun hHeld => ?_)
 clear hK K
 refine norm_ (a' := ?_) ?_ ?_
 rotate_left
 {
 show Act.put _ (some 110) _ = _
 simp only [Act.put, List.setIfInBounds_toArray, List.set_cons_zero, List.set_cons_succ, i64_w, i32_w]
 rfl
 }
 exact norm_ (by first | (simp only [putAll, Act.put, List.setIfInBounds_toArray, List.set_cons_zero, List.set_cons_succ]; done) | (simp only [putAll, Act.put, List.setIfInBounds_toArray, List.set_cons_zero, List.set_cons_succ]; rfl)) (hJ0_2_11 (v334, v337, gb351) _ ⟨hHeld, (Rh HO338), (Kd.R_mono (Rh HO_3) (fun _ hk => ⟨hk.2, ⟨hk.1.1, ⟨hk.1.2.1, hk.1.2.2⟩⟩⟩)), (Bh BK322), (Bh BK332), (Bh BK351), GW351.out, GE351.out, NB322_351.out, NB351_322.out, NB332_351.out, NB351_332.out, wB⟩)
 }
 {
 skip
 refine Kd.R_lit_step k76 _ 76 ?hg (N := 112) ?hd (xs := ([(⟨(⟨t316, t317⟩ : S74), 167772177, t319, t320⟩ : S76)] : List (S76))) (inner := [.int .i64 t316, .int .i64 t317, .int .i64 167772177, .int .i64 t319, .int .i64 t320]) (ok := fun _ => True) (okp := fun _ => True) ?hr ?hp (fun _ hk => hk) trivial (Below.refl _ _) (Nat.le_refl _) (by simp) ?_; (case hd => rfl); (case hg => rfl); (case hr => first | (go_simp; done) | (go_simp; rfl)); (case hp => exact (Reps.c5 (show Kd.M k76 _ _ _ (⟨(⟨t316, t317⟩ : S74), 167772177, t319, t320⟩ : S76) [.int .i64 t316, .int .i64 t317, .int .i64 167772177, .int .i64 t319, .int .i64 t320] from (k76_mkM _ _ _ (⟨(⟨t316, t317⟩ : S74), 167772177, t319, t320⟩ : S76) )) (Reps.none _ _)))
 intro v340 w3013 ho3014 hb hg_ hnew_
 clear hg_ hnew_
 (first | rw [← Ny339.out] at ho3014 | (simp only [Int.reduceToNat] at ho3014; rw [← Ny339.out] at ho3014))
 have n0_ := Aside0.mk (Kd.R_elder' (Rh HO_3) (Kd.R_base ho3014) hb)
 have n1_ := Aside0.mk (Kd.R_elder' (Rh HO335) (Kd.R_base ho3014) hb)
 have n2_ := Aside0.mk (Kd.R_lower (Kd.R_newB (Kd.R_newB (Kd.R_newB (Kd.R_new' (Kd.R_new' ho3014 (Kd.R_lt (Rh HO_3))) (Kd.R_lt (Rh HO335))) (Bh BK322)) (Bh BK332)) (Bh BK351)) (below_size wB))
 have n3_ := Aside0.mk (blk_below (Bh BK322) hb)
 have n4_ := Aside0.mk (blk_below (Bh BK332) hb)
 have n5_ := Aside0.mk (blk_below (Bh BK351) hb)
 have n6_ := Aside0.mk (below_step wB hb)
 clear HO_3
 clear HO335
 clear BK322
 clear BK332
 clear BK351
 clear HB
 have HO_3 := n0_
 have HO335 := n1_
 have HO341 := n2_
 have BK322 := n3_
 have BK332 := n4_
 have BK351 := n5_
 have HB := n6_
 clear n0_ n1_ n2_ n3_ n4_ n5_ n6_
 clear hb ho3014
 refine hK.out _ _ ⟨(blk_cell BK332.out 0).trans rfl, (blk_cell BK332.out 1).trans rfl, (blk_cell BK332.out 2).trans rfl, (blk_cell BK332.out 3).trans rfl, (blk_cell BK332.out 4).trans rfl⟩ (fun hHeld => ?_)
 clear hK K
 refine norm_ (a' := ?_) ?_ ?_
 rotate_left
 {
 show Act.put _ (some 112) _ = _
 simp only [Act.put, List.setIfInBounds_toArray, List.set_cons_zero, List.set_cons_succ, i64_w, i32_w]
 rfl
 }
 exact norm_ (by first | (simp only [putAll, Act.put, List.setIfInBounds_toArray, List.set_cons_zero, List.set_cons_succ]; done) | (simp only [putAll, Act.put, List.setIfInBounds_toArray, List.set_cons_zero, List.set_cons_succ]; rfl)) (hJ0_4_11 (v334, v340, gb351) _ ⟨hHeld, (Kd.R_mono (Rh HO335) (fun _ hk => ⟨hk.2, ⟨hk.1.1, ⟨hk.1.2.1, ⟨hk.1.2.2.1, hk.1.2.2.2⟩⟩⟩⟩)), (Kd.R_mono (Rh HO341) (fun _ hk => ⟨hk.1.1.1.2, ⟨hk.1.1.1.1.2, ⟨hk.1.1.2, ⟨hk.1.2, hk.2⟩⟩⟩⟩)), (Kd.R_mono (Rh HO_3) (fun _ hk => ⟨hk.1.1, ⟨hk.2, ⟨hk.1.2.1, ⟨hk.1.2.2.1, hk.1.2.2.2⟩⟩⟩⟩)), (Bh BK322), (Bh BK332), (Bh BK351), GW351.out, GE351.out, NB322_351.out, NB351_322.out, NB332_351.out, NB351_332.out, wB⟩)
 }
 }
 }
 {
 skip
 rintro ⟨v334, v340⟩ w3013 ⟨hS_, h0_, h1_, h2_, h3_, h4_, h5_⟩
 have n0_ : Aside0 (Kd.R k76 76 w3013 w.heap.size (fun k_ => some k_ ≠ (v340 : Value).ownBlock ∧ some k_ ≠ (.slice Ao1005 t306.length co1005 : Value).ownBlock ∧ k_ ≠ gb322 ∧ k_ ≠ gb332) v334 y333) := ⟨h0_⟩
 have n1_ : Aside0 (Kd.R k76 76 w3013 w.heap.size (fun k_ => some k_ ≠ (v334 : Value).ownBlock ∧ some k_ ≠ (.slice Ao1005 t306.length co1005 : Value).ownBlock ∧ k_ ≠ gb322 ∧ k_ ≠ gb332) v340 y339) := ⟨h1_⟩
 have n2_ : Aside0 (Kd.R k76 76 w3013 w.heap.size (fun k_ => some k_ ≠ (v334 : Value).ownBlock ∧ some k_ ≠ (v340 : Value).ownBlock ∧ k_ ≠ gb322 ∧ k_ ≠ gb332) (.slice Ao1005 t306.length co1005) t306) := ⟨h2_⟩
 have n3_ : Aside0 (w3013.heap[gb322]? = some (.cells #[.int .i64 t316, .int .i64 t317, .int .i64 t318, .int .i64 t319, .int .i64 t320] 76 (0, 0))) := ⟨h3_⟩
 have n4_ : Aside0 (w3013.heap[gb332]? = some (.cells #[.int .i64 t316, .int .i64 t317, .int .i64 167772177, .int .i64 t319, .int .i64 t320] 76 (0, 0))) := ⟨h4_⟩
 have n5_ : Aside0 (Below w.heap.size w w3013) := ⟨h5_⟩
 clear HO_3
 clear BK322
 clear BK332
 clear HB
 clear h0_ h1_ h2_ h3_ h4_ h5_
 have HO335 := n0_
 have HO341 := n1_
 have HO_3 := n2_
 have BK322 := n3_
 have BK332 := n4_
 have HB := n5_
 clear n0_ n1_ n2_ n3_ n4_ n5_
 have hHeld : w3013.cell? ⟨gb332, 0, none⟩ = some (.int .i64 t316) ∧ w3013.cell? ⟨gb332, 1, none⟩ = some (.int .i64 t317) ∧ w3013.cell? ⟨gb332, 2, none⟩ = some (.int .i64 167772177) ∧ w3013.cell? ⟨gb332, 3, none⟩ = some (.int .i64 t319) ∧ w3013.cell? ⟨gb332, 4, none⟩ = some (.int .i64 t320) := hS_
 refine norm_ (a' := ?_) ?_ ?_
 rotate_left
 {
 simp only [putAll, Act.put, List.setIfInBounds_toArray, List.set_cons_zero, List.set_cons_succ]
 rfl
 }
 refine two_ (i := 2) (j := 11) (Ni := some 110) (Nj := some 14) #[true, true, true, true, true, false, true, false, false, false, false, false, false, false] #[true, true, false, true, true, false, true, false, false, false, false, true, false, false] rfl rfl rfl rfl (two_of HT_.out (by kernel_rfl)) (by decide) (by decide) (fun K hK => ?_) (fun K hK => ?_)
 {
 skip
 refine Kd.R_append_rows_step k76 (w0 := w) w.heap.size (by rfl) (.tmp 108) (.tmp 109) 70 76 (.agg #[(.int .i64 0), (.int .i64 0), (.int .i64 0), (.int .i64 0), (.int .i64 0)]) 40 rfl Try.underlying70 info76 rfl (by decide) (by omega) v334 y333 t306 _ _ _ (fun k_ => some k_ ≠ (.slice Ao1005 t306.length co1005 : Value).ownBlock ∧ some k_ ≠ (v340 : Value).ownBlock ∧ k_ ≠ gb322 ∧ k_ ≠ gb332) (fun _ => False) rfl rfl ?aO ?aR (fun _ _ h => h) (fun _ h => h.elim) ?aF ?aB ?aS ?aL ?_
 (case aR => exact Ch HO_3)
 (case aB => exact wB)
 (case aF => exact (fun k_ hk => ⟨Kd.fresh' (Kd.R_lt (Rh HO_3)) k_ hk, Kd.fresh' (Kd.R_lt (Rh HO341)) k_ hk, Kd.freshB (Bh BK322) k_ hk, Kd.freshB (Bh BK332) k_ hk⟩))
 (case aO => exact (Kd.R_mono (Rh HO335) (fun _ hk => ⟨hk.2.1, ⟨hk.1, ⟨hk.2.2.1, hk.2.2.2⟩⟩⟩)))
 (case aS => exact (below_size wB))
 (case aL => have := LMc2005.out; omega)
 intro v337 w3014 ho hb hg hat
 rw [← Ny336.out] at ho
 have n0_ := Aside0.mk (Kd.R_after (ok := (fun k_ => some k_ ≠ (v340 : Value).ownBlock ∧ k_ ≠ gb322 ∧ k_ ≠ gb332)) (Kd.R_mono (Rh HO_3) (fun _ hk => ⟨⟨hk.2.1, ⟨hk.2.2.1, hk.2.2.2⟩⟩, hk.1⟩)) hg hat)
 have n1_ := Aside0.mk (blk_grown (Bh BK322) hg (Kd.R_away HO335.out (fun _ hk => hk.2.2.1)))
 have n2_ := Aside0.mk (blk_grown (Bh BK332) hg (Kd.R_away HO335.out (fun _ hk => hk.2.2.2)))
 have n3_ := Aside0.mk (Kd.R_after (ok := (fun k_ => some k_ ≠ (.slice Ao1005 t306.length co1005 : Value).ownBlock ∧ k_ ≠ gb322 ∧ k_ ≠ gb332)) (Kd.R_mono (Rh HO341) (fun _ hk => ⟨⟨hk.2.1, ⟨hk.2.2.1, hk.2.2.2⟩⟩, hk.1⟩)) hg hat)
 have n4_ := Aside0.mk (hb)
 have n5_ := Aside0.mk (ho)
 clear HO_3
 clear BK322
 clear BK332
 clear HO341
 clear HB
 clear HO335
 have HO_3 := n0_
 have BK322 := n1_
 have BK332 := n2_
 have HO341 := n3_
 have HB := n4_
 have HO338 := n5_
 clear n0_ n1_ n2_ n3_ n4_ n5_
 clear ho hb hg hat
 refine hK.out _ _ ⟨(blk_cell BK332.out 0).trans rfl, (blk_cell BK332.out 1).trans rfl, (blk_cell BK332.out 2).trans rfl, (blk_cell BK332.out 3).trans rfl, (blk_cell BK332.out 4).trans rfl⟩ (fun hHeld => ?_)
 clear hK K
 refine norm_ (a' := ?_) ?_ ?_
 rotate_left
 {
 show Act.put _ (some 110) _ = _
 simp only [Act.put, List.setIfInBounds_toArray, List.set_cons_zero, List.set_cons_succ, i64_w, i32_w]
 rfl
 }
 exact norm_ (by first | (simp only [putAll, Act.put, List.setIfInBounds_toArray, List.set_cons_zero, List.set_cons_succ]; done) | (simp only [putAll, Act.put, List.setIfInBounds_toArray, List.set_cons_zero, List.set_cons_succ]; rfl)) (hJ0_2_4 (v334, v337, v340) _ ⟨hHeld, (Kd.R_mono (Rh HO338) (fun _ hk => ⟨hk.2.1, ⟨hk.1, ⟨hk.2.2.1, hk.2.2.2⟩⟩⟩)), (Kd.R_mono (Rh HO341) (fun _ hk => ⟨hk.2, ⟨hk.1.1, ⟨hk.1.2.1, hk.1.2.2⟩⟩⟩)), (Kd.R_mono (Rh HO_3) (fun _ hk => ⟨hk.2, ⟨hk.1.1, ⟨hk.1.2.1, hk.1.2.2⟩⟩⟩)), (Bh BK322), (Bh BK332), wB⟩)
 }
 {
 skip
 refine box_step ?hg (N := 14) ?hd (cs := #[.int .i64 0, .int .i64 0, .int .i64 0, .int .i64 0, .int .i64 0]) (t := 76) ?hr ?_; (case hd => rfl); (case hg => rfl); (case hr => first | (go_simp; done) | (go_simp; rfl))
 intro gb351 hg w3014 hbox hb
 have n0_ := Aside0.mk (Kd.R_below (Kd.R_elderB (Rh HO_3) gb351 (Nat.le_of_eq hg.symm)) hb)
 have n1_ := Aside0.mk (Kd.R_below (Kd.R_elderB (Rh HO335) gb351 (Nat.le_of_eq hg.symm)) hb)
 have n2_ := Aside0.mk (Kd.R_below (Kd.R_elderB (Rh HO341) gb351 (Nat.le_of_eq hg.symm)) hb)
 have n3_ := Aside0.mk (blk_below (Bh BK322) hb)
 have n4_ := Aside0.mk (blk_below (Bh BK332) hb)
 have n5_ := Aside0.mk (below_step wB hb)
 have n6_ := Aside0.mk (hbox)
 have n7_ := Aside0.mk ((by rw [hg]; exact (below_size wB) : w.heap.size ≤ gb351))
 have n8_ := Aside0.mk ((by rw [hg]; exact (below_size wB) : w.heap.size ≤ gb351))
 have n9_ := Aside0.mk ((by rw [hg]; exact Nat.ne_of_lt (blk_lt (Bh BK322)) : gb322 ≠ gb351))
 have n10_ := Aside0.mk ((by rw [hg]; exact Nat.ne_of_gt (blk_lt (Bh BK322)) : gb351 ≠ gb322))
 have n11_ := Aside0.mk ((by rw [hg]; exact Nat.ne_of_lt (blk_lt (Bh BK332)) : gb332 ≠ gb351))
 have n12_ := Aside0.mk ((by rw [hg]; exact Nat.ne_of_gt (blk_lt (Bh BK332)) : gb351 ≠ gb332))
 clear HO_3
 clear HO335
 clear HO341
 clear BK322
 clear BK332
 clear HB
 have HO_3 := n0_
 have HO335 := n1_
 have HO341 := n2_
 have BK322 := n3_
 have BK332 := n4_
 have HB := n5_
 have BK351 := n6_
 have GW351 := n7_
 have GE351 := n8_
 have NB322_351 := n9_
 have NB351_322 := n10_
 have NB332_351 := n11_
 have NB351_332 := n12_
 clear n0_ n1_ n2_ n3_ n4_ n5_ n6_ n7_ n8_ n9_ n10_ n11_ n12_
 clear hb hbox hg
 refine hK.out _ _ ⟨(blk_cell BK332.out 0).trans rfl, (blk_cell BK332.out 1).trans rfl, (blk_cell BK332.out 2).trans rfl, (blk_cell BK332.out 3).trans rfl, (blk_cell BK332.out 4).trans rfl⟩ (fun hHeld => ?_)
 clear hK K
 refine norm_ (a' := ?_) ?_ ?_
 rotate_left
 {
 show Act.put _ (some 14) _ = _
 simp only [Act.put, List.setIfInBounds_toArray, List.set_cons_zero, List.set_cons_succ, i64_w, i32_w]
 rfl
 }
 exact norm_ (by first | (simp only [putAll, Act.put, List.setIfInBounds_toArray, List.set_cons_zero, List.set_cons_succ]; done) | (simp only [putAll, Act.put, List.setIfInBounds_toArray, List.set_cons_zero, List.set_cons_succ]; rfl)) (hJ0_4_11 (v334, v340, gb351) _ ⟨hHeld, (Kd.R_mono (Rh HO335) (fun _ hk => ⟨hk.1.1, ⟨hk.1.2.1, ⟨hk.1.2.2.1, ⟨hk.1.2.2.2, hk.2⟩⟩⟩⟩)), (Kd.R_mono (Rh HO341) (fun _ hk => ⟨hk.1.1, ⟨hk.1.2.1, ⟨hk.1.2.2.1, ⟨hk.1.2.2.2, hk.2⟩⟩⟩⟩)), (Kd.R_mono (Rh HO_3) (fun _ hk => ⟨hk.1.1, ⟨hk.1.2.1, ⟨hk.1.2.2.1, ⟨hk.1.2.2.2, hk.2⟩⟩⟩⟩)), (Bh BK322), (Bh BK332), (Bh BK351), GW351.out, GE351.out, NB322_351.out, NB351_322.out, NB332_351.out, NB351_332.out, wB⟩)
 }
 }
 }
 {
 skip
 rintro ⟨v334, v337⟩ w3012 ⟨hS_, h0_, h1_, h2_, h3_, h4_⟩
 have n0_ : Aside0 (Kd.R k76 76 w3012 w.heap.size (fun k_ => some k_ ≠ (.slice Ao1005 t306.length co1005 : Value).ownBlock ∧ k_ ≠ gb322 ∧ k_ ≠ gb332) v337 y336) := ⟨h0_⟩
 have n1_ : Aside0 (Kd.R k76 76 w3012 w.heap.size (fun k_ => some k_ ≠ (v337 : Value).ownBlock ∧ k_ ≠ gb322 ∧ k_ ≠ gb332) (.slice Ao1005 t306.length co1005) t306) := ⟨h1_⟩
 have n2_ : Aside0 (w3012.heap[gb322]? = some (.cells #[.int .i64 t316, .int .i64 t317, .int .i64 t318, .int .i64 t319, .int .i64 t320] 76 (0, 0))) := ⟨h2_⟩
 have n3_ : Aside0 (w3012.heap[gb332]? = some (.cells #[.int .i64 t316, .int .i64 t317, .int .i64 167772177, .int .i64 t319, .int .i64 t320] 76 (0, 0))) := ⟨h3_⟩
 have n4_ : Aside0 (Below w.heap.size w w3012) := ⟨h4_⟩
 clear HO_3
 clear BK322
 clear BK332
 clear HB
 clear h0_ h1_ h2_ h3_ h4_
 have HO338 := n0_
 have HO_3 := n1_
 have BK322 := n2_
 have BK332 := n3_
 have HB := n4_
 clear n0_ n1_ n2_ n3_ n4_
 have hHeld : w3012.cell? ⟨gb332, 0, none⟩ = some (.int .i64 t316) ∧ w3012.cell? ⟨gb332, 1, none⟩ = some (.int .i64 t317) ∧ w3012.cell? ⟨gb332, 2, none⟩ = some (.int .i64 167772177) ∧ w3012.cell? ⟨gb332, 3, none⟩ = some (.int .i64 t319) ∧ w3012.cell? ⟨gb332, 4, none⟩ = some (.int .i64 t320) := hS_
 refine norm_ (a' := ?_) ?_ ?_
 rotate_left
 {
 simp only [putAll, Act.put, List.setIfInBounds_toArray, List.set_cons_zero, List.set_cons_succ]
 rfl
 }
 refine two_ (i := 4) (j := 11) (Ni := some 112) (Nj := some 14) #[true, true, true, true, true, false, true, false, false, false, false, false, false, false] #[true, true, true, true, false, false, true, false, false, false, false, true, false, false] rfl rfl rfl rfl (two_of HT_.out (by kernel_rfl)) (by decide) (by decide) (fun K hK => ?_) (fun K hK => ?_)
 {
 skip
 refine Kd.R_lit_step k76 _ 76 ?hg (N := 112) ?hd (xs := ([(⟨(⟨t316, t317⟩ : S74), 167772177, t319, t320⟩ : S76)] : List (S76))) (inner := [.int .i64 t316, .int .i64 t317, .int .i64 167772177, .int .i64 t319, .int .i64 t320]) (ok := fun _ => True) (okp := fun _ => True) ?hr ?hp (fun _ hk => hk) trivial (Below.refl _ _) (Nat.le_refl _) (by simp) ?_; (case hd => rfl); (case hg => rfl); (case hr => first | (go_simp; done) | (go_simp; rfl)); (case hp => exact (Reps.c5 (show Kd.M k76 _ _ _ (⟨(⟨t316, t317⟩ : S74), 167772177, t319, t320⟩ : S76) [.int .i64 t316, .int .i64 t317, .int .i64 167772177, .int .i64 t319, .int .i64 t320] from (k76_mkM _ _ _ (⟨(⟨t316, t317⟩ : S74), 167772177, t319, t320⟩ : S76) )) (Reps.none _ _)))
 intro v340 w3013 ho3014 hb hg_ hnew_
 clear hg_ hnew_
 (first | rw [← Ny339.out] at ho3014 | (simp only [Int.reduceToNat] at ho3014; rw [← Ny339.out] at ho3014))
 have n0_ := Aside0.mk (Kd.R_elder' (Rh HO_3) (Kd.R_base ho3014) hb)
 have n1_ := Aside0.mk (Kd.R_elder' (Rh HO338) (Kd.R_base ho3014) hb)
 have n2_ := Aside0.mk (Kd.R_lower (Kd.R_newB (Kd.R_newB (Kd.R_new' (Kd.R_new' ho3014 (Kd.R_lt (Rh HO_3))) (Kd.R_lt (Rh HO338))) (Bh BK322)) (Bh BK332)) (below_size wB))
 have n3_ := Aside0.mk (blk_below (Bh BK322) hb)
 have n4_ := Aside0.mk (blk_below (Bh BK332) hb)
 have n5_ := Aside0.mk (below_step wB hb)
 clear HO_3
 clear HO338
 clear BK322
 clear BK332
 clear HB
 have HO_3 := n0_
 have HO338 := n1_
 have HO341 := n2_
 have BK322 := n3_
 have BK332 := n4_
 have HB := n5_
 clear n0_ n1_ n2_ n3_ n4_ n5_
 clear hb ho3014
 refine hK.out _ _ ⟨(blk_cell BK332.out 0).trans rfl, (blk_cell BK332.out 1).trans rfl, (blk_cell BK332.out 2).trans rfl, (blk_cell BK332.out 3).trans rfl, (blk_cell BK332.out 4).trans rfl⟩ (fun hHeld => ?_)
 clear hK K
 refine norm_ (a' := ?_) ?_ ?_
 rotate_left
 {
 show Act.put _ (some 112) _ = _
 simp only [Act.put, List.setIfInBounds_toArray, List.set_cons_zero, List.set_cons_succ, i64_w, i32_w]
 rfl
 }
 exact norm_ (by first | (simp only [putAll, Act.put, List.setIfInBounds_toArray, List.set_cons_zero, List.set_cons_succ]; done) | (simp only [putAll, Act.put, List.setIfInBounds_toArray, List.set_cons_zero, List.set_cons_succ]; rfl)) (hJ0_2_4 (v334, v337, v340) _ ⟨hHeld, (Kd.R_mono (Rh HO338) (fun _ hk => ⟨hk.2, ⟨hk.1.1, ⟨hk.1.2.1, hk.1.2.2⟩⟩⟩)), (Kd.R_mono (Rh HO341) (fun _ hk => ⟨hk.1.1.2, ⟨hk.1.1.1.2, ⟨hk.1.2, hk.2⟩⟩⟩)), (Kd.R_mono (Rh HO_3) (fun _ hk => ⟨hk.1.1, ⟨hk.2, ⟨hk.1.2.1, hk.1.2.2⟩⟩⟩)), (Bh BK322), (Bh BK332), wB⟩)
 }
 {
 skip
 refine box_step ?hg (N := 14) ?hd (cs := #[.int .i64 0, .int .i64 0, .int .i64 0, .int .i64 0, .int .i64 0]) (t := 76) ?hr ?_; (case hd => rfl); (case hg => rfl); (case hr => first | (go_simp; done) | (go_simp; rfl))
 intro gb351 hg w3013 hbox hb
 have n0_ := Aside0.mk (Kd.R_below (Kd.R_elderB (Rh HO_3) gb351 (Nat.le_of_eq hg.symm)) hb)
 have n1_ := Aside0.mk (Kd.R_below (Kd.R_elderB (Rh HO338) gb351 (Nat.le_of_eq hg.symm)) hb)
 have n2_ := Aside0.mk (blk_below (Bh BK322) hb)
 have n3_ := Aside0.mk (blk_below (Bh BK332) hb)
 have n4_ := Aside0.mk (below_step wB hb)
 have n5_ := Aside0.mk (hbox)
 have n6_ := Aside0.mk ((by rw [hg]; exact (below_size wB) : w.heap.size ≤ gb351))
 have n7_ := Aside0.mk ((by rw [hg]; exact (below_size wB) : w.heap.size ≤ gb351))
 have n8_ := Aside0.mk ((by rw [hg]; exact Nat.ne_of_lt (blk_lt (Bh BK322)) : gb322 ≠ gb351))
 have n9_ := Aside0.mk ((by rw [hg]; exact Nat.ne_of_gt (blk_lt (Bh BK322)) : gb351 ≠ gb322))
 have n10_ := Aside0.mk ((by rw [hg]; exact Nat.ne_of_lt (blk_lt (Bh BK332)) : gb332 ≠ gb351))
 have n11_ := Aside0.mk ((by rw [hg]; exact Nat.ne_of_gt (blk_lt (Bh BK332)) : gb351 ≠ gb332))
 clear HO_3
 clear HO338
 clear BK322
 clear BK332
 clear HB
 have HO_3 := n0_
 have HO338 := n1_
 have BK322 := n2_
 have BK332 := n3_
 have HB := n4_
 have BK351 := n5_
 have GW351 := n6_
 have GE351 := n7_
 have NB322_351 := n8_
 have NB351_322 := n9_
 have NB332_351 := n10_
 have NB351_332 := n11_
 clear n0_ n1_ n2_ n3_ n4_ n5_ n6_ n7_ n8_ n9_ n10_ n11_
 clear hb hbox hg
 refine hK.out _ _ ⟨(blk_cell BK332.out 0).trans rfl, (blk_cell BK332.out 1).trans rfl, (blk_cell BK332.out 2).trans rfl, (blk_cell BK332.out 3).trans rfl, (blk_cell BK332.out 4).trans rfl⟩ (fun hHeld => ?_)
 clear hK K
 refine norm_ (a' := ?_) ?_ ?_
 rotate_left
 {
 show Act.put _ (some 14) _ = _
 simp only [Act.put, List.setIfInBounds_toArray, List.set_cons_zero, List.set_cons_succ, i64_w, i32_w]
 rfl
 }
 exact norm_ (by first | (simp only [putAll, Act.put, List.setIfInBounds_toArray, List.set_cons_zero, List.set_cons_succ]; done) | (simp only [putAll, Act.put, List.setIfInBounds_toArray, List.set_cons_zero, List.set_cons_succ]; rfl)) (hJ0_2_11 (v334, v337, gb351) _ ⟨hHeld, (Kd.R_mono (Rh HO338) (fun _ hk => ⟨hk.1.1, ⟨hk.1.2.1, ⟨hk.1.2.2, hk.2⟩⟩⟩)), (Kd.R_mono (Rh HO_3) (fun _ hk => ⟨hk.1.1, ⟨hk.1.2.1, ⟨hk.1.2.2, hk.2⟩⟩⟩)), (Bh BK322), (Bh BK332), (Bh BK351), GW351.out, GE351.out, NB322_351.out, NB351_322.out, NB332_351.out, NB351_332.out, wB⟩)
 }
 }
 }
 {
 skip
 rintro ⟨v334, v340, gb351⟩ w3014 ⟨hS_, h0_, h1_, h2_, h3_, h4_, h5_, h6_, h7_, h8_, h9_, h10_, h11_, h12_⟩
 have n0_ : Aside0 (Kd.R k76 76 w3014 w.heap.size (fun k_ => some k_ ≠ (v340 : Value).ownBlock ∧ some k_ ≠ (.slice Ao1005 t306.length co1005 : Value).ownBlock ∧ k_ ≠ gb322 ∧ k_ ≠ gb332 ∧ k_ ≠ gb351) v334 y333) := ⟨h0_⟩
 have n1_ : Aside0 (Kd.R k76 76 w3014 w.heap.size (fun k_ => some k_ ≠ (v334 : Value).ownBlock ∧ some k_ ≠ (.slice Ao1005 t306.length co1005 : Value).ownBlock ∧ k_ ≠ gb322 ∧ k_ ≠ gb332 ∧ k_ ≠ gb351) v340 y339) := ⟨h1_⟩
 have n2_ : Aside0 (Kd.R k76 76 w3014 w.heap.size (fun k_ => some k_ ≠ (v334 : Value).ownBlock ∧ some k_ ≠ (v340 : Value).ownBlock ∧ k_ ≠ gb322 ∧ k_ ≠ gb332 ∧ k_ ≠ gb351) (.slice Ao1005 t306.length co1005) t306) := ⟨h2_⟩
 have n3_ : Aside0 (w3014.heap[gb322]? = some (.cells #[.int .i64 t316, .int .i64 t317, .int .i64 t318, .int .i64 t319, .int .i64 t320] 76 (0, 0))) := ⟨h3_⟩
 have n4_ : Aside0 (w3014.heap[gb332]? = some (.cells #[.int .i64 t316, .int .i64 t317, .int .i64 167772177, .int .i64 t319, .int .i64 t320] 76 (0, 0))) := ⟨h4_⟩
 have n5_ : Aside0 (w3014.heap[gb351]? = some (.cells #[.int .i64 0, .int .i64 0, .int .i64 0, .int .i64 0, .int .i64 0] 76 (0, 0))) := ⟨h5_⟩
 have n6_ : Aside0 (w.heap.size ≤ gb351) := ⟨h6_⟩
 have n7_ : Aside0 (w.heap.size ≤ gb351) := ⟨h7_⟩
 have n8_ : Aside0 (gb322 ≠ gb351) := ⟨h8_⟩
 have n9_ : Aside0 (gb351 ≠ gb322) := ⟨h9_⟩
 have n10_ : Aside0 (gb332 ≠ gb351) := ⟨h10_⟩
 have n11_ : Aside0 (gb351 ≠ gb332) := ⟨h11_⟩
 have n12_ : Aside0 (Below w.heap.size w w3014) := ⟨h12_⟩
 clear HO_3
 clear BK322
 clear BK332
 clear HB
 clear h0_ h1_ h2_ h3_ h4_ h5_ h6_ h7_ h8_ h9_ h10_ h11_ h12_
 have HO335 := n0_
 have HO341 := n1_
 have HO_3 := n2_
 have BK322 := n3_
 have BK332 := n4_
 have BK351 := n5_
 have GW351 := n6_
 have GE351 := n7_
 have NB322_351 := n8_
 have NB351_322 := n9_
 have NB332_351 := n10_
 have NB351_332 := n11_
 have HB := n12_
 clear n0_ n1_ n2_ n3_ n4_ n5_ n6_ n7_ n8_ n9_ n10_ n11_ n12_
 have hHeld : w3014.cell? ⟨gb332, 0, none⟩ = some (.int .i64 t316) ∧ w3014.cell? ⟨gb332, 1, none⟩ = some (.int .i64 t317) ∧ w3014.cell? ⟨gb332, 2, none⟩ = some (.int .i64 167772177) ∧ w3014.cell? ⟨gb332, 3, none⟩ = some (.int .i64 t319) ∧ w3014.cell? ⟨gb332, 4, none⟩ = some (.int .i64 t320) := hS_
 refine norm_ (a' := ?_) ?_ ?_
 rotate_left
 {
 simp only [putAll, Act.put, List.setIfInBounds_toArray, List.set_cons_zero, List.set_cons_succ]
 rfl
 }
 refine one_ (i := 2) (N := some 110) #[true, true, true, true, true, false, true, false, false, false, false, true, false, false] rfl rfl (one_of HT_.out (by kernel_rfl)) (by decide) (fun K hK => ?_)
 refine Kd.R_append_rows_step k76 (w0 := w) w.heap.size (by rfl) (.tmp 108) (.tmp 109) 70 76 (.agg #[(.int .i64 0), (.int .i64 0), (.int .i64 0), (.int .i64 0), (.int .i64 0)]) 40 rfl Try.underlying70 info76 rfl (by decide) (by omega) v334 y333 t306 _ _ _ (fun k_ => some k_ ≠ (.slice Ao1005 t306.length co1005 : Value).ownBlock ∧ some k_ ≠ (v340 : Value).ownBlock ∧ k_ ≠ gb322 ∧ k_ ≠ gb332 ∧ k_ ≠ gb351) (fun _ => False) rfl rfl ?aO ?aR (fun _ _ h => h) (fun _ h => h.elim) ?aF ?aB ?aS ?aL ?_
 (case aR => exact Ch HO_3)
 (case aB => exact wB)
 (case aF => exact (fun k_ hk => ⟨Kd.fresh' (Kd.R_lt (Rh HO_3)) k_ hk, Kd.fresh' (Kd.R_lt (Rh HO341)) k_ hk, Kd.freshB (Bh BK322) k_ hk, Kd.freshB (Bh BK332) k_ hk, Kd.freshB (Bh BK351) k_ hk⟩))
 (case aO => exact (Kd.R_mono (Rh HO335) (fun _ hk => ⟨hk.2.1, ⟨hk.1, ⟨hk.2.2.1, ⟨hk.2.2.2.1, hk.2.2.2.2⟩⟩⟩⟩)))
 (case aS => exact (below_size wB))
 (case aL => have := LMc2005.out; omega)
 intro v337 w3015 ho hb hg hat
 rw [← Ny336.out] at ho
 have n0_ := Aside0.mk (Kd.R_after (ok := (fun k_ => some k_ ≠ (v340 : Value).ownBlock ∧ k_ ≠ gb322 ∧ k_ ≠ gb332 ∧ k_ ≠ gb351)) (Kd.R_mono (Rh HO_3) (fun _ hk => ⟨⟨hk.2.1, ⟨hk.2.2.1, ⟨hk.2.2.2.1, hk.2.2.2.2⟩⟩⟩, hk.1⟩)) hg hat)
 have n1_ := Aside0.mk (blk_grown (Bh BK322) hg (Kd.R_away HO335.out (fun _ hk => hk.2.2.1)))
 have n2_ := Aside0.mk (blk_grown (Bh BK332) hg (Kd.R_away HO335.out (fun _ hk => hk.2.2.2.1)))
 have n3_ := Aside0.mk (Kd.R_after (ok := (fun k_ => some k_ ≠ (.slice Ao1005 t306.length co1005 : Value).ownBlock ∧ k_ ≠ gb322 ∧ k_ ≠ gb332 ∧ k_ ≠ gb351)) (Kd.R_mono (Rh HO341) (fun _ hk => ⟨⟨hk.2.1, ⟨hk.2.2.1, ⟨hk.2.2.2.1, hk.2.2.2.2⟩⟩⟩, hk.1⟩)) hg hat)
 have n4_ := Aside0.mk (blk_grown (Bh BK351) hg (Kd.R_away HO335.out (fun _ hk => hk.2.2.2.2)))
 have n5_ := Aside0.mk (hb)
 have n6_ := Aside0.mk (ho)
 clear HO_3
 clear BK322
 clear BK332
 clear HO341
 clear BK351
 clear HB
 clear HO335
 have HO_3 := n0_
 have BK322 := n1_
 have BK332 := n2_
 have HO341 := n3_
 have BK351 := n4_
 have HB := n5_
 have HO338 := n6_
 clear n0_ n1_ n2_ n3_ n4_ n5_ n6_
 clear ho hb hg hat
 refine hK.out _ _ ⟨(blk_cell BK332.out 0).trans rfl, (blk_cell BK332.out 1).trans rfl, (blk_cell BK332.out 2).trans rfl, (blk_cell BK332.out 3).trans rfl, (blk_cell BK332.out 4).trans rfl⟩ (fun hHeld => ?_)
 clear hK K
 refine norm_ (a' := ?_) ?_ ?_
 rotate_left
 {
 show Act.put _ (some 110) _ = _
 simp only [Act.put, List.setIfInBounds_toArray, List.set_cons_zero, List.set_cons_succ, i64_w, i32_w]
 rfl
 }
 exact norm_ (by first | (simp only [putAll, Act.put, List.setIfInBounds_toArray, List.set_cons_zero, List.set_cons_succ]; done) | (simp only [putAll, Act.put, List.setIfInBounds_toArray, List.set_cons_zero, List.set_cons_succ]; rfl)) (hJ0_2_4_11 (v334, v337, v340, gb351) _ ⟨hHeld, (Kd.R_mono (Rh HO338) (fun _ hk => ⟨hk.2.1, ⟨hk.1, ⟨hk.2.2.1, ⟨hk.2.2.2.1, hk.2.2.2.2⟩⟩⟩⟩)), (Kd.R_mono (Rh HO341) (fun _ hk => ⟨hk.2, ⟨hk.1.1, ⟨hk.1.2.1, ⟨hk.1.2.2.1, hk.1.2.2.2⟩⟩⟩⟩)), (Kd.R_mono (Rh HO_3) (fun _ hk => ⟨hk.2, ⟨hk.1.1, ⟨hk.1.2.1, ⟨hk.1.2.2.1, hk.1.2.2.2⟩⟩⟩⟩)), (Bh BK322), (Bh BK332), (Bh BK351), GW351.out, GE351.out, NB322_351.out, NB351_322.out, NB332_351.out, NB351_332.out, wB⟩)
 }
 }
 {
 skip
 rintro ⟨v334, v337, gb351⟩ w3013 ⟨hS_, h0_, h1_, h2_, h3_, h4_, h5_, h6_, h7_, h8_, h9_, h10_, h11_⟩
 have n0_ : Aside0 (Kd.R k76 76 w3013 w.heap.size (fun k_ => some k_ ≠ (.slice Ao1005 t306.length co1005 : Value).ownBlock ∧ k_ ≠ gb322 ∧ k_ ≠ gb332 ∧ k_ ≠ gb351) v337 y336) := ⟨h0_⟩
 have n1_ : Aside0 (Kd.R k76 76 w3013 w.heap.size (fun k_ => some k_ ≠ (v337 : Value).ownBlock ∧ k_ ≠ gb322 ∧ k_ ≠ gb332 ∧ k_ ≠ gb351) (.slice Ao1005 t306.length co1005) t306) := ⟨h1_⟩
 have n2_ : Aside0 (w3013.heap[gb322]? = some (.cells #[.int .i64 t316, .int .i64 t317, .int .i64 t318, .int .i64 t319, .int .i64 t320] 76 (0, 0))) := ⟨h2_⟩
 have n3_ : Aside0 (w3013.heap[gb332]? = some (.cells #[.int .i64 t316, .int .i64 t317, .int .i64 167772177, .int .i64 t319, .int .i64 t320] 76 (0, 0))) := ⟨h3_⟩
 have n4_ : Aside0 (w3013.heap[gb351]? = some (.cells #[.int .i64 0, .int .i64 0, .int .i64 0, .int .i64 0, .int .i64 0] 76 (0, 0))) := ⟨h4_⟩
 have n5_ : Aside0 (w.heap.size ≤ gb351) := ⟨h5_⟩
 have n6_ : Aside0 (w.heap.size ≤ gb351) := ⟨h6_⟩
 have n7_ : Aside0 (gb322 ≠ gb351) := ⟨h7_⟩
 have n8_ : Aside0 (gb351 ≠ gb322) := ⟨h8_⟩
 have n9_ : Aside0 (gb332 ≠ gb351) := ⟨h9_⟩
 have n10_ : Aside0 (gb351 ≠ gb332) := ⟨h10_⟩
 have n11_ : Aside0 (Below w.heap.size w w3013) := ⟨h11_⟩
 clear HO_3
 clear BK322
 clear BK332
 clear HB
 clear h0_ h1_ h2_ h3_ h4_ h5_ h6_ h7_ h8_ h9_ h10_ h11_
 have HO338 := n0_
 have HO_3 := n1_
 have BK322 := n2_
 have BK332 := n3_
 have BK351 := n4_
 have GW351 := n5_
 have GE351 := n6_
 have NB322_351 := n7_
 have NB351_322 := n8_
 have NB332_351 := n9_
 have NB351_332 := n10_
 have HB := n11_
 clear n0_ n1_ n2_ n3_ n4_ n5_ n6_ n7_ n8_ n9_ n10_ n11_
 have hHeld : w3013.cell? ⟨gb332, 0, none⟩ = some (.int .i64 t316) ∧ w3013.cell? ⟨gb332, 1, none⟩ = some (.int .i64 t317) ∧ w3013.cell? ⟨gb332, 2, none⟩ = some (.int .i64 167772177) ∧ w3013.cell? ⟨gb332, 3, none⟩ = some (.int .i64 t319) ∧ w3013.cell? ⟨gb332, 4, none⟩ = some (.int .i64 t320) := hS_
 refine norm_ (a' := ?_) ?_ ?_
 rotate_left
 {
 simp only [putAll, Act.put, List.setIfInBounds_toArray, List.set_cons_zero, List.set_cons_succ]
 rfl
 }
 refine one_ (i := 4) (N := some 112) #[true, true, true, true, true, false, true, false, false, false, false, true, false, false] rfl rfl (one_of HT_.out (by kernel_rfl)) (by decide) (fun K hK => ?_)
 refine Kd.R_lit_step k76 _ 76 ?hg (N := 112) ?hd (xs := ([(⟨(⟨t316, t317⟩ : S74), 167772177, t319, t320⟩ : S76)] : List (S76))) (inner := [.int .i64 t316, .int .i64 t317, .int .i64 167772177, .int .i64 t319, .int .i64 t320]) (ok := fun _ => True) (okp := fun _ => True) ?hr ?hp (fun _ hk => hk) trivial (Below.refl _ _) (Nat.le_refl _) (by simp) ?_; (case hd => rfl); (case hg => rfl); (case hr => first | (go_simp; done) | (go_simp; rfl)); (case hp => exact (Reps.c5 (show Kd.M k76 _ _ _ (⟨(⟨t316, t317⟩ : S74), 167772177, t319, t320⟩ : S76) [.int .i64 t316, .int .i64 t317, .int .i64 167772177, .int .i64 t319, .int .i64 t320] from (k76_mkM _ _ _ (⟨(⟨t316, t317⟩ : S74), 167772177, t319, t320⟩ : S76) )) (Reps.none _ _)))
 intro v340 w3014 ho3015 hb hg_ hnew_
 clear hg_ hnew_
 (first | rw [← Ny339.out] at ho3015 | (simp only [Int.reduceToNat] at ho3015; rw [← Ny339.out] at ho3015))
 have n0_ := Aside0.mk (Kd.R_elder' (Rh HO_3) (Kd.R_base ho3015) hb)
 have n1_ := Aside0.mk (Kd.R_elder' (Rh HO338) (Kd.R_base ho3015) hb)
 have n2_ := Aside0.mk (Kd.R_lower (Kd.R_newB (Kd.R_newB (Kd.R_newB (Kd.R_new' (Kd.R_new' ho3015 (Kd.R_lt (Rh HO_3))) (Kd.R_lt (Rh HO338))) (Bh BK322)) (Bh BK332)) (Bh BK351)) (below_size wB))
 have n3_ := Aside0.mk (blk_below (Bh BK322) hb)
 have n4_ := Aside0.mk (blk_below (Bh BK332) hb)
 have n5_ := Aside0.mk (blk_below (Bh BK351) hb)
 have n6_ := Aside0.mk (below_step wB hb)
 clear HO_3
 clear HO338
 clear BK322
 clear BK332
 clear BK351
 clear HB
 have HO_3 := n0_
 have HO338 := n1_
 have HO341 := n2_
 have BK322 := n3_
 have BK332 := n4_
 have BK351 := n5_
 have HB := n6_
 clear n0_ n1_ n2_ n3_ n4_ n5_ n6_
 clear hb ho3015
 refine hK.out _ _ ⟨(blk_cell BK332.out 0).trans rfl, (blk_cell BK332.out 1).trans rfl, (blk_cell BK332.out 2).trans rfl, (blk_cell BK332.out 3).trans rfl, (blk_cell BK332.out 4).trans rfl⟩ (fun hHeld => ?_)
 clear hK K
 refine norm_ (a' := ?_) ?_ ?_
 rotate_left
 {
 show Act.put _ (some 112) _ = _
 simp only [Act.put, List.setIfInBounds_toArray, List.set_cons_zero, List.set_cons_succ, i64_w, i32_w]
 rfl
 }
 exact norm_ (by first | (simp only [putAll, Act.put, List.setIfInBounds_toArray, List.set_cons_zero, List.set_cons_succ]; done) | (simp only [putAll, Act.put, List.setIfInBounds_toArray, List.set_cons_zero, List.set_cons_succ]; rfl)) (hJ0_2_4_11 (v334, v337, v340, gb351) _ ⟨hHeld, (Kd.R_mono (Rh HO338) (fun _ hk => ⟨hk.2, ⟨hk.1.1, ⟨hk.1.2.1, ⟨hk.1.2.2.1, hk.1.2.2.2⟩⟩⟩⟩)), (Kd.R_mono (Rh HO341) (fun _ hk => ⟨hk.1.1.1.2, ⟨hk.1.1.1.1.2, ⟨hk.1.1.2, ⟨hk.1.2, hk.2⟩⟩⟩⟩)), (Kd.R_mono (Rh HO_3) (fun _ hk => ⟨hk.1.1, ⟨hk.2, ⟨hk.1.2.1, ⟨hk.1.2.2.1, hk.1.2.2.2⟩⟩⟩⟩)), (Bh BK322), (Bh BK332), (Bh BK351), GW351.out, GE351.out, NB322_351.out, NB351_322.out, NB332_351.out, NB351_332.out, wB⟩)
 }
 }
 {
 skip
 rintro ⟨v334, v337, v340⟩ w3014 ⟨hS_, h0_, h1_, h2_, h3_, h4_, h5_⟩
 have n0_ : Aside0 (Kd.R k76 76 w3014 w.heap.size (fun k_ => some k_ ≠ (v340 : Value).ownBlock ∧ some k_ ≠ (.slice Ao1005 t306.length co1005 : Value).ownBlock ∧ k_ ≠ gb322 ∧ k_ ≠ gb332) v337 y336) := ⟨h0_⟩
 have n1_ : Aside0 (Kd.R k76 76 w3014 w.heap.size (fun k_ => some k_ ≠ (v337 : Value).ownBlock ∧ some k_ ≠ (.slice Ao1005 t306.length co1005 : Value).ownBlock ∧ k_ ≠ gb322 ∧ k_ ≠ gb332) v340 y339) := ⟨h1_⟩
 have n2_ : Aside0 (Kd.R k76 76 w3014 w.heap.size (fun k_ => some k_ ≠ (v337 : Value).ownBlock ∧ some k_ ≠ (v340 : Value).ownBlock ∧ k_ ≠ gb322 ∧ k_ ≠ gb332) (.slice Ao1005 t306.length co1005) t306) := ⟨h2_⟩
 have n3_ : Aside0 (w3014.heap[gb322]? = some (.cells #[.int .i64 t316, .int .i64 t317, .int .i64 t318, .int .i64 t319, .int .i64 t320] 76 (0, 0))) := ⟨h3_⟩
 have n4_ : Aside0 (w3014.heap[gb332]? = some (.cells #[.int .i64 t316, .int .i64 t317, .int .i64 167772177, .int .i64 t319, .int .i64 t320] 76 (0, 0))) := ⟨h4_⟩
 have n5_ : Aside0 (Below w.heap.size w w3014) := ⟨h5_⟩
 clear HO_3
 clear BK322
 clear BK332
 clear HB
 clear h0_ h1_ h2_ h3_ h4_ h5_
 have HO338 := n0_
 have HO341 := n1_
 have HO_3 := n2_
 have BK322 := n3_
 have BK332 := n4_
 have HB := n5_
 clear n0_ n1_ n2_ n3_ n4_ n5_
 have hHeld : w3014.cell? ⟨gb332, 0, none⟩ = some (.int .i64 t316) ∧ w3014.cell? ⟨gb332, 1, none⟩ = some (.int .i64 t317) ∧ w3014.cell? ⟨gb332, 2, none⟩ = some (.int .i64 167772177) ∧ w3014.cell? ⟨gb332, 3, none⟩ = some (.int .i64 t319) ∧ w3014.cell? ⟨gb332, 4, none⟩ = some (.int .i64 t320) := hS_
 obtain ⟨Ao3016, co3016, eo3016⟩ := Kd.R_slice HO341.out
 (first | subst eo3016 | (injection eo3016 with f1_ f2_ f3_; have f4_ := f1_.symm; have f5_ := f3_.symm; clear f1_ f2_ f3_; subst f4_; subst f5_))
 refine norm_ (a' := ?_) ?_ ?_
 rotate_left
 {
 simp only [putAll, Act.put, List.setIfInBounds_toArray, List.set_cons_zero, List.set_cons_succ]
 rfl
 }
 refine two_ (i := 5) (j := 11) (Ni := some 113) (Nj := some 14) #[true, true, true, true, true, true, true, false, false, false, false, false, false, false] #[true, true, true, true, true, false, true, false, false, false, false, true, false, false] rfl rfl rfl rfl (two_of HT_.out (by kernel_rfl)) (by decide) (by decide) (fun K hK => ?_) (fun K hK => ?_)
 {
 skip
 refine Kd.R_append_rows_step k76 (w0 := w) w.heap.size (by rfl) (.tmp 110) (.tmp 112) 70 76 (.agg #[(.int .i64 0), (.int .i64 0), (.int .i64 0), (.int .i64 0), (.int .i64 0)]) 40 rfl Try.underlying70 info76 rfl (by decide) (by omega) v337 y336 y339 _ _ _ (fun k_ => some k_ ≠ (.slice Ao1005 t306.length co1005 : Value).ownBlock ∧ some k_ ≠ (.slice Ao3016 y339.length co3016 : Value).ownBlock ∧ k_ ≠ gb322 ∧ k_ ≠ gb332) (fun _ => False) rfl rfl ?aO ?aR (fun _ _ h => h) (fun _ h => h.elim) ?aF ?aB ?aS ?aL ?_
 (case aR => exact Ch HO341)
 (case aB => exact wB)
 (case aF => exact (fun k_ hk => ⟨Kd.fresh' (Kd.R_lt (Rh HO_3)) k_ hk, Kd.fresh' (Kd.R_lt (Rh HO341)) k_ hk, Kd.freshB (Bh BK322) k_ hk, Kd.freshB (Bh BK332) k_ hk⟩))
 (case aO => exact (Kd.R_mono (Rh HO338) (fun _ hk => ⟨hk.2.1, ⟨hk.1, ⟨hk.2.2.1, hk.2.2.2⟩⟩⟩)))
 (case aS => exact (below_size wB))
 (case aL => have := LMc2006.out; omega)
 intro v343 w3015 ho hb hg hat
 rw [← Ny342.out] at ho
 have n0_ := Aside0.mk (Kd.R_after (ok := (fun k_ => some k_ ≠ (.slice Ao3016 y339.length co3016 : Value).ownBlock ∧ k_ ≠ gb322 ∧ k_ ≠ gb332)) (Kd.R_mono (Rh HO_3) (fun _ hk => ⟨⟨hk.2.1, ⟨hk.2.2.1, hk.2.2.2⟩⟩, hk.1⟩)) hg hat)
 have n1_ := Aside0.mk (blk_grown (Bh BK322) hg (Kd.R_away HO338.out (fun _ hk => hk.2.2.1)))
 have n2_ := Aside0.mk (blk_grown (Bh BK332) hg (Kd.R_away HO338.out (fun _ hk => hk.2.2.2)))
 have n3_ := Aside0.mk (Kd.R_after (ok := (fun k_ => some k_ ≠ (.slice Ao1005 t306.length co1005 : Value).ownBlock ∧ k_ ≠ gb322 ∧ k_ ≠ gb332)) (Kd.R_mono (Rh HO341) (fun _ hk => ⟨⟨hk.2.1, ⟨hk.2.2.1, hk.2.2.2⟩⟩, hk.1⟩)) hg hat)
 have n4_ := Aside0.mk (hb)
 have n5_ := Aside0.mk (ho)
 clear HO_3
 clear BK322
 clear BK332
 clear HO341
 clear HB
 clear HO338
 have HO_3 := n0_
 have BK322 := n1_
 have BK332 := n2_
 have HO341 := n3_
 have HB := n4_
 have HO344 := n5_
 clear n0_ n1_ n2_ n3_ n4_ n5_
 clear ho hb hg hat
 refine hK.out _ _ ⟨(blk_cell BK332.out 0).trans rfl, (blk_cell BK332.out 1).trans rfl, (blk_cell BK332.out 2).trans rfl, (blk_cell BK332.out 3).trans rfl, (blk_cell BK332.out 4).trans rfl⟩ (fun hHeld => ?_)
 clear hK K
 refine norm_ (a' := ?_) ?_ ?_
 rotate_left
 {
 show Act.put _ (some 113) _ = _
 simp only [Act.put, List.setIfInBounds_toArray, List.set_cons_zero, List.set_cons_succ, i64_w, i32_w]
 rfl
 }
 exact norm_ (by first | (simp only [putAll, Act.put, List.setIfInBounds_toArray, List.set_cons_zero, List.set_cons_succ]; done) | (simp only [putAll, Act.put, List.setIfInBounds_toArray, List.set_cons_zero, List.set_cons_succ]; rfl)) (hJ0_2_4_5 (v334, v337, .slice Ao3016 y339.length co3016, v343) _ ⟨hHeld, (Kd.R_mono (Rh HO341) (fun _ hk => ⟨hk.2, ⟨hk.1.1, ⟨hk.1.2.1, hk.1.2.2⟩⟩⟩)), (Kd.R_mono (Rh HO344) (fun _ hk => ⟨hk.2.1, ⟨hk.1, ⟨hk.2.2.1, hk.2.2.2⟩⟩⟩)), (Kd.R_mono (Rh HO_3) (fun _ hk => ⟨hk.1.1, ⟨hk.2, ⟨hk.1.2.1, hk.1.2.2⟩⟩⟩)), (Bh BK322), (Bh BK332), wB⟩)
 }
 {
 skip
 refine box_step ?hg (N := 14) ?hd (cs := #[.int .i64 0, .int .i64 0, .int .i64 0, .int .i64 0, .int .i64 0]) (t := 76) ?hr ?_; (case hd => rfl); (case hg => rfl); (case hr => first | (go_simp; done) | (go_simp; rfl))
 intro gb351 hg w3015 hbox hb
 have n0_ := Aside0.mk (Kd.R_below (Kd.R_elderB (Rh HO_3) gb351 (Nat.le_of_eq hg.symm)) hb)
 have n1_ := Aside0.mk (Kd.R_below (Kd.R_elderB (Rh HO338) gb351 (Nat.le_of_eq hg.symm)) hb)
 have n2_ := Aside0.mk (Kd.R_below (Kd.R_elderB (Rh HO341) gb351 (Nat.le_of_eq hg.symm)) hb)
 have n3_ := Aside0.mk (blk_below (Bh BK322) hb)
 have n4_ := Aside0.mk (blk_below (Bh BK332) hb)
 have n5_ := Aside0.mk (below_step wB hb)
 have n6_ := Aside0.mk (hbox)
 have n7_ := Aside0.mk ((by rw [hg]; exact (below_size wB) : w.heap.size ≤ gb351))
 have n8_ := Aside0.mk ((by rw [hg]; exact (below_size wB) : w.heap.size ≤ gb351))
 have n9_ := Aside0.mk ((by rw [hg]; exact Nat.ne_of_lt (blk_lt (Bh BK322)) : gb322 ≠ gb351))
 have n10_ := Aside0.mk ((by rw [hg]; exact Nat.ne_of_gt (blk_lt (Bh BK322)) : gb351 ≠ gb322))
 have n11_ := Aside0.mk ((by rw [hg]; exact Nat.ne_of_lt (blk_lt (Bh BK332)) : gb332 ≠ gb351))
 have n12_ := Aside0.mk ((by rw [hg]; exact Nat.ne_of_gt (blk_lt (Bh BK332)) : gb351 ≠ gb332))
 clear HO_3
 clear HO338
 clear HO341
 clear BK322
 clear BK332
 clear HB
 have HO_3 := n0_
 have HO338 := n1_
 have HO341 := n2_
 have BK322 := n3_
 have BK332 := n4_
 have HB := n5_
 have BK351 := n6_
 have GW351 := n7_
 have GE351 := n8_
 have NB322_351 := n9_
 have NB351_322 := n10_
 have NB332_351 := n11_
 have NB351_332 := n12_
 clear n0_ n1_ n2_ n3_ n4_ n5_ n6_ n7_ n8_ n9_ n10_ n11_ n12_
 clear hb hbox hg
 refine hK.out _ _ ⟨(blk_cell BK332.out 0).trans rfl, (blk_cell BK332.out 1).trans rfl, (blk_cell BK332.out 2).trans rfl, (blk_cell BK332.out 3).trans rfl, (blk_cell BK332.out 4).trans rfl⟩ (fun hHeld => ?_)
 clear hK K
 refine norm_ (a' := ?_) ?_ ?_
 rotate_left
 {
 show Act.put _ (some 14) _ = _
 simp only [Act.put, List.setIfInBounds_toArray, List.set_cons_zero, List.set_cons_succ, i64_w, i32_w]
 rfl
 }
 exact norm_ (by first | (simp only [putAll, Act.put, List.setIfInBounds_toArray, List.set_cons_zero, List.set_cons_succ]; done) | (simp only [putAll, Act.put, List.setIfInBounds_toArray, List.set_cons_zero, List.set_cons_succ]; rfl)) (hJ0_2_4_11 (v334, v337, _, gb351) _ ⟨hHeld, (Kd.R_mono (Rh HO338) (fun _ hk => ⟨hk.1.1, ⟨hk.1.2.1, ⟨hk.1.2.2.1, ⟨hk.1.2.2.2, hk.2⟩⟩⟩⟩)), (Kd.R_mono (Rh HO341) (fun _ hk => ⟨hk.1.1, ⟨hk.1.2.1, ⟨hk.1.2.2.1, ⟨hk.1.2.2.2, hk.2⟩⟩⟩⟩)), (Kd.R_mono (Rh HO_3) (fun _ hk => ⟨hk.1.1, ⟨hk.1.2.1, ⟨hk.1.2.2.1, ⟨hk.1.2.2.2, hk.2⟩⟩⟩⟩)), (Bh BK322), (Bh BK332), (Bh BK351), GW351.out, GE351.out, NB322_351.out, NB351_322.out, NB332_351.out, NB351_332.out, wB⟩)
 }
 }
 }
 {
 skip
 rintro ⟨v334, v337, v340, gb351⟩ w3015 ⟨hS_, h0_, h1_, h2_, h3_, h4_, h5_, h6_, h7_, h8_, h9_, h10_, h11_, h12_⟩
 have n0_ : Aside0 (Kd.R k76 76 w3015 w.heap.size (fun k_ => some k_ ≠ (v340 : Value).ownBlock ∧ some k_ ≠ (.slice Ao1005 t306.length co1005 : Value).ownBlock ∧ k_ ≠ gb322 ∧ k_ ≠ gb332 ∧ k_ ≠ gb351) v337 y336) := ⟨h0_⟩
 have n1_ : Aside0 (Kd.R k76 76 w3015 w.heap.size (fun k_ => some k_ ≠ (v337 : Value).ownBlock ∧ some k_ ≠ (.slice Ao1005 t306.length co1005 : Value).ownBlock ∧ k_ ≠ gb322 ∧ k_ ≠ gb332 ∧ k_ ≠ gb351) v340 y339) := ⟨h1_⟩
 have n2_ : Aside0 (Kd.R k76 76 w3015 w.heap.size (fun k_ => some k_ ≠ (v337 : Value).ownBlock ∧ some k_ ≠ (v340 : Value).ownBlock ∧ k_ ≠ gb322 ∧ k_ ≠ gb332 ∧ k_ ≠ gb351) (.slice Ao1005 t306.length co1005) t306) := ⟨h2_⟩
 have n3_ : Aside0 (w3015.heap[gb322]? = some (.cells #[.int .i64 t316, .int .i64 t317, .int .i64 t318, .int .i64 t319, .int .i64 t320] 76 (0, 0))) := ⟨h3_⟩
 have n4_ : Aside0 (w3015.heap[gb332]? = some (.cells #[.int .i64 t316, .int .i64 t317, .int .i64 167772177, .int .i64 t319, .int .i64 t320] 76 (0, 0))) := ⟨h4_⟩
 have n5_ : Aside0 (w3015.heap[gb351]? = some (.cells #[.int .i64 0, .int .i64 0, .int .i64 0, .int .i64 0, .int .i64 0] 76 (0, 0))) := ⟨h5_⟩
 have n6_ : Aside0 (w.heap.size ≤ gb351) := ⟨h6_⟩
 have n7_ : Aside0 (w.heap.size ≤ gb351) := ⟨h7_⟩
 have n8_ : Aside0 (gb322 ≠ gb351) := ⟨h8_⟩
 have n9_ : Aside0 (gb351 ≠ gb322) := ⟨h9_⟩
 have n10_ : Aside0 (gb332 ≠ gb351) := ⟨h10_⟩
 have n11_ : Aside0 (gb351 ≠ gb332) := ⟨h11_⟩
 have n12_ : Aside0 (Below w.heap.size w w3015) := ⟨h12_⟩
 clear HO_3
 clear BK322
 clear BK332
 clear HB
 clear h0_ h1_ h2_ h3_ h4_ h5_ h6_ h7_ h8_ h9_ h10_ h11_ h12_
 have HO338 := n0_
 have HO341 := n1_
 have HO_3 := n2_
 have BK322 := n3_
 have BK332 := n4_
 have BK351 := n5_
 have GW351 := n6_
 have GE351 := n7_
 have NB322_351 := n8_
 have NB351_322 := n9_
 have NB332_351 := n10_
 have NB351_332 := n11_
 have HB := n12_
 clear n0_ n1_ n2_ n3_ n4_ n5_ n6_ n7_ n8_ n9_ n10_ n11_ n12_
 have hHeld : w3015.cell? ⟨gb332, 0, none⟩ = some (.int .i64 t316) ∧ w3015.cell? ⟨gb332, 1, none⟩ = some (.int .i64 t317) ∧ w3015.cell? ⟨gb332, 2, none⟩ = some (.int .i64 167772177) ∧ w3015.cell? ⟨gb332, 3, none⟩ = some (.int .i64 t319) ∧ w3015.cell? ⟨gb332, 4, none⟩ = some (.int .i64 t320) := hS_
 obtain ⟨Ao3017, co3017, eo3017⟩ := Kd.R_slice HO341.out
 (first | subst eo3017 | (injection eo3017 with f1_ f2_ f3_; have f4_ := f1_.symm; have f5_ := f3_.symm; clear f1_ f2_ f3_; subst f4_; subst f5_))
 refine norm_ (a' := ?_) ?_ ?_
 rotate_left
 {
 simp only [putAll, Act.put, List.setIfInBounds_toArray, List.set_cons_zero, List.set_cons_succ]
 rfl
 }
 refine one_ (i := 5) (N := some 113) #[true, true, true, true, true, true, true, false, false, false, false, true, false, false] rfl rfl (one_of HT_.out (by kernel_rfl)) (by decide) (fun K hK => ?_)
 refine Kd.R_append_rows_step k76 (w0 := w) w.heap.size (by rfl) (.tmp 110) (.tmp 112) 70 76 (.agg #[(.int .i64 0), (.int .i64 0), (.int .i64 0), (.int .i64 0), (.int .i64 0)]) 40 rfl Try.underlying70 info76 rfl (by decide) (by omega) v337 y336 y339 _ _ _ (fun k_ => some k_ ≠ (.slice Ao1005 t306.length co1005 : Value).ownBlock ∧ some k_ ≠ (.slice Ao3017 y339.length co3017 : Value).ownBlock ∧ k_ ≠ gb322 ∧ k_ ≠ gb332 ∧ k_ ≠ gb351) (fun _ => False) rfl rfl ?aO ?aR (fun _ _ h => h) (fun _ h => h.elim) ?aF ?aB ?aS ?aL ?_
 (case aR => exact Ch HO341)
 (case aB => exact wB)
 (case aF => exact (fun k_ hk => ⟨Kd.fresh' (Kd.R_lt (Rh HO_3)) k_ hk, Kd.fresh' (Kd.R_lt (Rh HO341)) k_ hk, Kd.freshB (Bh BK322) k_ hk, Kd.freshB (Bh BK332) k_ hk, Kd.freshB (Bh BK351) k_ hk⟩))
 (case aO => exact (Kd.R_mono (Rh HO338) (fun _ hk => ⟨hk.2.1, ⟨hk.1, ⟨hk.2.2.1, ⟨hk.2.2.2.1, hk.2.2.2.2⟩⟩⟩⟩)))
 (case aS => exact (below_size wB))
 (case aL => have := LMc2006.out; omega)
 intro v343 w3016 ho hb hg hat
 rw [← Ny342.out] at ho
 have n0_ := Aside0.mk (Kd.R_after (ok := (fun k_ => some k_ ≠ (.slice Ao3017 y339.length co3017 : Value).ownBlock ∧ k_ ≠ gb322 ∧ k_ ≠ gb332 ∧ k_ ≠ gb351)) (Kd.R_mono (Rh HO_3) (fun _ hk => ⟨⟨hk.2.1, ⟨hk.2.2.1, ⟨hk.2.2.2.1, hk.2.2.2.2⟩⟩⟩, hk.1⟩)) hg hat)
 have n1_ := Aside0.mk (blk_grown (Bh BK322) hg (Kd.R_away HO338.out (fun _ hk => hk.2.2.1)))
 have n2_ := Aside0.mk (blk_grown (Bh BK332) hg (Kd.R_away HO338.out (fun _ hk => hk.2.2.2.1)))
 have n3_ := Aside0.mk (Kd.R_after (ok := (fun k_ => some k_ ≠ (.slice Ao1005 t306.length co1005 : Value).ownBlock ∧ k_ ≠ gb322 ∧ k_ ≠ gb332 ∧ k_ ≠ gb351)) (Kd.R_mono (Rh HO341) (fun _ hk => ⟨⟨hk.2.1, ⟨hk.2.2.1, ⟨hk.2.2.2.1, hk.2.2.2.2⟩⟩⟩, hk.1⟩)) hg hat)
 have n4_ := Aside0.mk (blk_grown (Bh BK351) hg (Kd.R_away HO338.out (fun _ hk => hk.2.2.2.2)))
 have n5_ := Aside0.mk (hb)
 have n6_ := Aside0.mk (ho)
 clear HO_3
 clear BK322
 clear BK332
 clear HO341
 clear BK351
 clear HB
 clear HO338
 have HO_3 := n0_
 have BK322 := n1_
 have BK332 := n2_
 have HO341 := n3_
 have BK351 := n4_
 have HB := n5_
 have HO344 := n6_
 clear n0_ n1_ n2_ n3_ n4_ n5_ n6_
 clear ho hb hg hat
 refine hK.out _ _ ⟨(blk_cell BK332.out 0).trans rfl, (blk_cell BK332.out 1).trans rfl, (blk_cell BK332.out 2).trans rfl, (blk_cell BK332.out 3).trans rfl, (blk_cell BK332.out 4).trans rfl⟩ (fun hHeld => ?_)
 clear hK K
 refine norm_ (a' := ?_) ?_ ?_
 rotate_left
 {
 show Act.put _ (some 113) _ = _
 simp only [Act.put, List.setIfInBounds_toArray, List.set_cons_zero, List.set_cons_succ, i64_w, i32_w]
 rfl
 }
 exact norm_ (by first | (simp only [putAll, Act.put, List.setIfInBounds_toArray, List.set_cons_zero, List.set_cons_succ]; done) | (simp only [putAll, Act.put, List.setIfInBounds_toArray, List.set_cons_zero, List.set_cons_succ]; rfl)) (hJ0_2_4_5_11 (v334, v337, .slice Ao3017 y339.length co3017, v343, gb351) _ ⟨hHeld, (Kd.R_mono (Rh HO341) (fun _ hk => ⟨hk.2, ⟨hk.1.1, ⟨hk.1.2.1, ⟨hk.1.2.2.1, hk.1.2.2.2⟩⟩⟩⟩)), (Kd.R_mono (Rh HO344) (fun _ hk => ⟨hk.2.1, ⟨hk.1, ⟨hk.2.2.1, ⟨hk.2.2.2.1, hk.2.2.2.2⟩⟩⟩⟩)), (Kd.R_mono (Rh HO_3) (fun _ hk => ⟨hk.1.1, ⟨hk.2, ⟨hk.1.2.1, ⟨hk.1.2.2.1, hk.1.2.2.2⟩⟩⟩⟩)), (Bh BK322), (Bh BK332), (Bh BK351), GW351.out, GE351.out, NB322_351.out, NB351_322.out, NB332_351.out, NB351_332.out, wB⟩)
 }
 }
 {
 skip
 rintro ⟨v334, v337, v340, v343⟩ w3016 ⟨hS_, h0_, h1_, h2_, h3_, h4_, h5_⟩
 have n0_ : Aside0 (Kd.R k76 76 w3016 w.heap.size (fun k_ => some k_ ≠ (v343 : Value).ownBlock ∧ some k_ ≠ (.slice Ao1005 t306.length co1005 : Value).ownBlock ∧ k_ ≠ gb322 ∧ k_ ≠ gb332) v340 y339) := ⟨h0_⟩
 have n1_ : Aside0 (Kd.R k76 76 w3016 w.heap.size (fun k_ => some k_ ≠ (v340 : Value).ownBlock ∧ some k_ ≠ (.slice Ao1005 t306.length co1005 : Value).ownBlock ∧ k_ ≠ gb322 ∧ k_ ≠ gb332) v343 y342) := ⟨h1_⟩
 have n2_ : Aside0 (Kd.R k76 76 w3016 w.heap.size (fun k_ => some k_ ≠ (v340 : Value).ownBlock ∧ some k_ ≠ (v343 : Value).ownBlock ∧ k_ ≠ gb322 ∧ k_ ≠ gb332) (.slice Ao1005 t306.length co1005) t306) := ⟨h2_⟩
 have n3_ : Aside0 (w3016.heap[gb322]? = some (.cells #[.int .i64 t316, .int .i64 t317, .int .i64 t318, .int .i64 t319, .int .i64 t320] 76 (0, 0))) := ⟨h3_⟩
 have n4_ : Aside0 (w3016.heap[gb332]? = some (.cells #[.int .i64 t316, .int .i64 t317, .int .i64 167772177, .int .i64 t319, .int .i64 t320] 76 (0, 0))) := ⟨h4_⟩
 have n5_ : Aside0 (Below w.heap.size w w3016) := ⟨h5_⟩
 clear HO_3
 clear BK322
 clear BK332
 clear HB
 clear h0_ h1_ h2_ h3_ h4_ h5_
 have HO341 := n0_
 have HO344 := n1_
 have HO_3 := n2_
 have BK322 := n3_
 have BK332 := n4_
 have HB := n5_
 clear n0_ n1_ n2_ n3_ n4_ n5_
 have hHeld : w3016.cell? ⟨gb332, 0, none⟩ = some (.int .i64 t316) ∧ w3016.cell? ⟨gb332, 1, none⟩ = some (.int .i64 t317) ∧ w3016.cell? ⟨gb332, 2, none⟩ = some (.int .i64 167772177) ∧ w3016.cell? ⟨gb332, 3, none⟩ = some (.int .i64 t319) ∧ w3016.cell? ⟨gb332, 4, none⟩ = some (.int .i64 t320) := hS_
 obtain ⟨Ao3017, co3017, eo3017⟩ := Kd.R_slice HO344.out
 (first | subst eo3017 | (injection eo3017 with f1_ f2_ f3_; have f4_ := f1_.symm; have f5_ := f3_.symm; clear f1_ f2_ f3_; subst f4_; subst f5_))
 refine norm_ (a' := ?_) ?_ ?_
 rotate_left
 {
 simp only [putAll, Act.put, List.setIfInBounds_toArray, List.set_cons_zero, List.set_cons_succ]
 rfl
 }
 refine two_ (i := 7) (j := 11) (Ni := some 115) (Nj := some 14) #[true, true, true, true, true, true, true, true, false, false, false, false, false, false] #[true, true, true, true, true, true, true, false, false, false, false, true, false, false] rfl rfl rfl rfl (two_of HT_.out (by kernel_rfl)) (by decide) (by decide) (fun K hK => ?_) (fun K hK => ?_)
 {
 skip
 refine goes_ Try.func44 (by kernel_rfl) rfl #[.slice Ao3017 y342.length co3017, .int .i64 t307] (by rfl) rfl rfl wT ?_
 with_reducible refine (impl_FindRoute.calls kj1016 _ _ y342 t307 t345 t346 t347 t348 t349 _ _ ?side1 ?side2 A2007.out).mono ?_
 (case side1 => exact Ch HO344)
 (case side2 => exact (Kd.R_reads' HO344.out).2.1)
 rintro e w3018 ⟨rfl, hb⟩
 refine ⟨_, rfl, ?_⟩
 have n0_ := Aside0.mk (Kd.R_below (Rh HO_3) hb)
 have n1_ := Aside0.mk (Kd.R_below (Rh HO341) hb)
 have n2_ := Aside0.mk (Kd.R_below (Rh HO344) hb)
 have n3_ := Aside0.mk (blk_below (Bh BK322) hb)
 have n4_ := Aside0.mk (blk_below (Bh BK332) hb)
 have n5_ := Aside0.mk (below_step wB hb)
 clear HO_3
 clear HO341
 clear HO344
 clear BK322
 clear BK332
 clear HB
 have HO_3 := n0_
 have HO341 := n1_
 have HO344 := n2_
 have BK322 := n3_
 have BK332 := n4_
 have HB := n5_
 clear n0_ n1_ n2_ n3_ n4_ n5_
 (try clear hb)
 (try clear hb2)
 (try clear hk)
 (try clear hi)
 refine hK.out _ _ ⟨(blk_cell BK332.out 0).trans rfl, (blk_cell BK332.out 1).trans rfl, (blk_cell BK332.out 2).trans rfl, (blk_cell BK332.out 3).trans rfl, (blk_cell BK332.out 4).trans rfl⟩ (fun hHeld => ?_)
 clear hK K
 refine norm_ (a' := ?_) ?_ ?_
 rotate_left
 {
 show Act.put _ (some 115) _ = _
 simp only [Act.put, List.setIfInBounds_toArray, List.set_cons_zero, List.set_cons_succ, i64_w, i32_w]
 rfl
 }
 refine pure_ (i := 8) (N := some 107) (v := ?_) (a' := ?_) #[true, true, true, true, true, true, true, true, true, false, false, false, false, false] rfl rfl (any_of HT_.out (by kernel_rfl)) (fun _ _ _ h => h) (Or.inl ⟨by rfl, ?_⟩) ?_ ?_
 rotate_left
 {
 intro w'
 go_simp
 with_reducible rfl
 }
 rotate_left
 {
 simp only [Act.put, List.setIfInBounds_toArray, List.set_cons_zero, List.set_cons_succ, i64_w, i32_w]
 rfl
 }
 refine pure_ (i := 9) (N := some 116) (v := ?_) (a' := ?_) #[true, true, true, true, true, true, true, true, true, true, false, false, false, false] rfl rfl (any_of HT_.out (by kernel_rfl)) (fun _ _ _ h => h) (Or.inl ⟨by rfl, ?_⟩) ?_ ?_
 rotate_left
 {
 intro w'
 go_simp
 with_reducible rfl
 }
 rotate_left
 {
 simp only [Act.put, List.setIfInBounds_toArray, List.set_cons_zero, List.set_cons_succ, i64_w, i32_w]
 rfl
 }
 refine pure_ (i := 10) (N := some 117) (v := ?_) (a' := ?_) #[true, true, true, true, true, true, true, true, true, true, true, false, false, false] rfl rfl (any_of HT_.out (by kernel_rfl)) (fun _ _ _ h => h) (Or.inl ⟨by rfl, ?_⟩) ?_ ?_
 rotate_left
 {
 intro w'
 go_simp
 with_reducible rfl
 }
 rotate_left
 {
 simp only [Act.put, List.setIfInBounds_toArray, List.set_cons_zero, List.set_cons_succ, i64_w, i32_w]
 rfl
 }
 exact norm_ (by first | (simp only [putAll, Act.put, List.setIfInBounds_toArray, List.set_cons_zero, List.set_cons_succ]; done) | (simp only [putAll, Act.put, List.setIfInBounds_toArray, List.set_cons_zero, List.set_cons_succ]; rfl)) (hJ0_2_4_5_7 (v334, v337, v340, .slice Ao3017 y342.length co3017) _ ⟨hHeld, (Rh HO341), (Rh HO344), (Rh HO_3), (Bh BK322), (Bh BK332), wB⟩)
 }
 {
 skip
 refine box_step ?hg (N := 14) ?hd (cs := #[.int .i64 0, .int .i64 0, .int .i64 0, .int .i64 0, .int .i64 0]) (t := 76) ?hr ?_; (case hd => rfl); (case hg => rfl); (case hr => first | (go_simp; done) | (go_simp; rfl))
 intro gb351 hg w3017 hbox hb
 have n0_ := Aside0.mk (Kd.R_below (Kd.R_elderB (Rh HO_3) gb351 (Nat.le_of_eq hg.symm)) hb)
 have n1_ := Aside0.mk (Kd.R_below (Kd.R_elderB (Rh HO341) gb351 (Nat.le_of_eq hg.symm)) hb)
 have n2_ := Aside0.mk (Kd.R_below (Kd.R_elderB (Rh HO344) gb351 (Nat.le_of_eq hg.symm)) hb)
 have n3_ := Aside0.mk (blk_below (Bh BK322) hb)
 have n4_ := Aside0.mk (blk_below (Bh BK332) hb)
 have n5_ := Aside0.mk (below_step wB hb)
 have n6_ := Aside0.mk (hbox)
 have n7_ := Aside0.mk ((by rw [hg]; exact (below_size wB) : w.heap.size ≤ gb351))
 have n8_ := Aside0.mk ((by rw [hg]; exact (below_size wB) : w.heap.size ≤ gb351))
 have n9_ := Aside0.mk ((by rw [hg]; exact Nat.ne_of_lt (blk_lt (Bh BK322)) : gb322 ≠ gb351))
 have n10_ := Aside0.mk ((by rw [hg]; exact Nat.ne_of_gt (blk_lt (Bh BK322)) : gb351 ≠ gb322))
 have n11_ := Aside0.mk ((by rw [hg]; exact Nat.ne_of_lt (blk_lt (Bh BK332)) : gb332 ≠ gb351))
 have n12_ := Aside0.mk ((by rw [hg]; exact Nat.ne_of_gt (blk_lt (Bh BK332)) : gb351 ≠ gb332))
 clear HO_3
 clear HO341
 clear HO344
 clear BK322
 clear BK332
 clear HB
 have HO_3 := n0_
 have HO341 := n1_
 have HO344 := n2_
 have BK322 := n3_
 have BK332 := n4_
 have HB := n5_
 have BK351 := n6_
 have GW351 := n7_
 have GE351 := n8_
 have NB322_351 := n9_
 have NB351_322 := n10_
 have NB332_351 := n11_
 have NB351_332 := n12_
 clear n0_ n1_ n2_ n3_ n4_ n5_ n6_ n7_ n8_ n9_ n10_ n11_ n12_
 clear hb hbox hg
 refine hK.out _ _ ⟨(blk_cell BK332.out 0).trans rfl, (blk_cell BK332.out 1).trans rfl, (blk_cell BK332.out 2).trans rfl, (blk_cell BK332.out 3).trans rfl, (blk_cell BK332.out 4).trans rfl⟩ (fun hHeld => ?_)
 clear hK K
 refine norm_ (a' := ?_) ?_ ?_
 rotate_left
 {
 show Act.put _ (some 14) _ = _
 simp only [Act.put, List.setIfInBounds_toArray, List.set_cons_zero, List.set_cons_succ, i64_w, i32_w]
 rfl
 }
 exact norm_ (by first | (simp only [putAll, Act.put, List.setIfInBounds_toArray, List.set_cons_zero, List.set_cons_succ]; done) | (simp only [putAll, Act.put, List.setIfInBounds_toArray, List.set_cons_zero, List.set_cons_succ]; rfl)) (hJ0_2_4_5_11 (v334, v337, v340, _, gb351) _ ⟨hHeld, (Kd.R_mono (Rh HO341) (fun _ hk => ⟨hk.1.1, ⟨hk.1.2.1, ⟨hk.1.2.2.1, ⟨hk.1.2.2.2, hk.2⟩⟩⟩⟩)), (Kd.R_mono (Rh HO344) (fun _ hk => ⟨hk.1.1, ⟨hk.1.2.1, ⟨hk.1.2.2.1, ⟨hk.1.2.2.2, hk.2⟩⟩⟩⟩)), (Kd.R_mono (Rh HO_3) (fun _ hk => ⟨hk.1.1, ⟨hk.1.2.1, ⟨hk.1.2.2.1, ⟨hk.1.2.2.2, hk.2⟩⟩⟩⟩)), (Bh BK322), (Bh BK332), (Bh BK351), GW351.out, GE351.out, NB322_351.out, NB351_322.out, NB332_351.out, NB351_332.out, wB⟩)
 }
 }
 }
 {
 skip
 rintro ⟨v334, v337, v340, v343, gb351⟩ w3017 ⟨hS_, h0_, h1_, h2_, h3_, h4_, h5_, h6_, h7_, h8_, h9_, h10_, h11_, h12_⟩
 have n0_ : Aside0 (Kd.R k76 76 w3017 w.heap.size (fun k_ => some k_ ≠ (v343 : Value).ownBlock ∧ some k_ ≠ (.slice Ao1005 t306.length co1005 : Value).ownBlock ∧ k_ ≠ gb322 ∧ k_ ≠ gb332 ∧ k_ ≠ gb351) v340 y339) := ⟨h0_⟩
 have n1_ : Aside0 (Kd.R k76 76 w3017 w.heap.size (fun k_ => some k_ ≠ (v340 : Value).ownBlock ∧ some k_ ≠ (.slice Ao1005 t306.length co1005 : Value).ownBlock ∧ k_ ≠ gb322 ∧ k_ ≠ gb332 ∧ k_ ≠ gb351) v343 y342) := ⟨h1_⟩
 have n2_ : Aside0 (Kd.R k76 76 w3017 w.heap.size (fun k_ => some k_ ≠ (v340 : Value).ownBlock ∧ some k_ ≠ (v343 : Value).ownBlock ∧ k_ ≠ gb322 ∧ k_ ≠ gb332 ∧ k_ ≠ gb351) (.slice Ao1005 t306.length co1005) t306) := ⟨h2_⟩
 have n3_ : Aside0 (w3017.heap[gb322]? = some (.cells #[.int .i64 t316, .int .i64 t317, .int .i64 t318, .int .i64 t319, .int .i64 t320] 76 (0, 0))) := ⟨h3_⟩
 have n4_ : Aside0 (w3017.heap[gb332]? = some (.cells #[.int .i64 t316, .int .i64 t317, .int .i64 167772177, .int .i64 t319, .int .i64 t320] 76 (0, 0))) := ⟨h4_⟩
 have n5_ : Aside0 (w3017.heap[gb351]? = some (.cells #[.int .i64 0, .int .i64 0, .int .i64 0, .int .i64 0, .int .i64 0] 76 (0, 0))) := ⟨h5_⟩
 have n6_ : Aside0 (w.heap.size ≤ gb351) := ⟨h6_⟩
 have n7_ : Aside0 (w.heap.size ≤ gb351) := ⟨h7_⟩
 have n8_ : Aside0 (gb322 ≠ gb351) := ⟨h8_⟩
 have n9_ : Aside0 (gb351 ≠ gb322) := ⟨h9_⟩
 have n10_ : Aside0 (gb332 ≠ gb351) := ⟨h10_⟩
 have n11_ : Aside0 (gb351 ≠ gb332) := ⟨h11_⟩
 have n12_ : Aside0 (Below w.heap.size w w3017) := ⟨h12_⟩
 clear HO_3
 clear BK322
 clear BK332
 clear HB
 clear h0_ h1_ h2_ h3_ h4_ h5_ h6_ h7_ h8_ h9_ h10_ h11_ h12_
 have HO341 := n0_
 have HO344 := n1_
 have HO_3 := n2_
 have BK322 := n3_
 have BK332 := n4_
 have BK351 := n5_
 have GW351 := n6_
 have GE351 := n7_
 have NB322_351 := n8_
 have NB351_322 := n9_
 have NB332_351 := n10_
 have NB351_332 := n11_
 have HB := n12_
 clear n0_ n1_ n2_ n3_ n4_ n5_ n6_ n7_ n8_ n9_ n10_ n11_ n12_
 have hHeld : w3017.cell? ⟨gb332, 0, none⟩ = some (.int .i64 t316) ∧ w3017.cell? ⟨gb332, 1, none⟩ = some (.int .i64 t317) ∧ w3017.cell? ⟨gb332, 2, none⟩ = some (.int .i64 167772177) ∧ w3017.cell? ⟨gb332, 3, none⟩ = some (.int .i64 t319) ∧ w3017.cell? ⟨gb332, 4, none⟩ = some (.int .i64 t320) := hS_
 obtain ⟨Ao3018, co3018, eo3018⟩ := Kd.R_slice HO344.out
 (first | subst eo3018 | (injection eo3018 with f1_ f2_ f3_; have f4_ := f1_.symm; have f5_ := f3_.symm; clear f1_ f2_ f3_; subst f4_; subst f5_))
 refine norm_ (a' := ?_) ?_ ?_
 rotate_left
 {
 simp only [putAll, Act.put, List.setIfInBounds_toArray, List.set_cons_zero, List.set_cons_succ]
 rfl
 }
 refine one_ (i := 7) (N := some 115) #[true, true, true, true, true, true, true, true, false, false, false, true, false, false] rfl rfl (one_of HT_.out (by kernel_rfl)) (by decide) (fun K hK => ?_)
 refine goes_ Try.func44 (by kernel_rfl) rfl #[.slice Ao3018 y342.length co3018, .int .i64 t307] (by rfl) rfl rfl wT ?_
 with_reducible refine (impl_FindRoute.calls kj1016 _ _ y342 t307 t345 t346 t347 t348 t349 _ _ ?side1 ?side2 A2007.out).mono ?_
 (case side1 => exact Ch HO344)
 (case side2 => exact (Kd.R_reads' HO344.out).2.1)
 rintro e w3019 ⟨rfl, hb⟩
 refine ⟨_, rfl, ?_⟩
 have n0_ := Aside0.mk (Kd.R_below (Rh HO_3) hb)
 have n1_ := Aside0.mk (Kd.R_below (Rh HO341) hb)
 have n2_ := Aside0.mk (Kd.R_below (Rh HO344) hb)
 have n3_ := Aside0.mk (blk_below (Bh BK322) hb)
 have n4_ := Aside0.mk (blk_below (Bh BK332) hb)
 have n5_ := Aside0.mk (blk_below (Bh BK351) hb)
 have n6_ := Aside0.mk (below_step wB hb)
 clear HO_3
 clear HO341
 clear HO344
 clear BK322
 clear BK332
 clear BK351
 clear HB
 have HO_3 := n0_
 have HO341 := n1_
 have HO344 := n2_
 have BK322 := n3_
 have BK332 := n4_
 have BK351 := n5_
 have HB := n6_
 clear n0_ n1_ n2_ n3_ n4_ n5_ n6_
 (try clear hb)
 (try clear hb2)
 (try clear hk)
 (try clear hi)
 refine hK.out _ _ ⟨(blk_cell BK332.out 0).trans rfl, (blk_cell BK332.out 1).trans rfl, (blk_cell BK332.out 2).trans rfl, (blk_cell BK332.out 3).trans rfl, (blk_cell BK332.out 4).trans rfl⟩ (fun hHeld => ?_)
 clear hK K
 refine norm_ (a' := ?_) ?_ ?_
 rotate_left
 {
 show Act.put _ (some 115) _ = _
 simp only [Act.put, List.setIfInBounds_toArray, List.set_cons_zero, List.set_cons_succ, i64_w, i32_w]
 rfl
 }
 refine pure_ (i := 8) (N := some 107) (v := ?_) (a' := ?_) #[true, true, true, true, true, true, true, true, true, false, false, true, false, false] rfl rfl (any_of HT_.out (by kernel_rfl)) (fun _ _ _ h => h) (Or.inl ⟨by rfl, ?_⟩) ?_ ?_
 rotate_left
 {
 intro w'
 go_simp
 with_reducible rfl
 }
 rotate_left
 {
 simp only [Act.put, List.setIfInBounds_toArray, List.set_cons_zero, List.set_cons_succ, i64_w, i32_w]
 rfl
 }
 refine pure_ (i := 9) (N := some 116) (v := ?_) (a' := ?_) #[true, true, true, true, true, true, true, true, true, true, false, true, false, false] rfl rfl (any_of HT_.out (by kernel_rfl)) (fun _ _ _ h => h) (Or.inl ⟨by rfl, ?_⟩) ?_ ?_
 rotate_left
 {
 intro w'
 go_simp
 with_reducible rfl
 }
 rotate_left
 {
 simp only [Act.put, List.setIfInBounds_toArray, List.set_cons_zero, List.set_cons_succ, i64_w, i32_w]
 rfl
 }
 refine pure_ (i := 10) (N := some 117) (v := ?_) (a' := ?_) #[true, true, true, true, true, true, true, true, true, true, true, true, false, false] rfl rfl (any_of HT_.out (by kernel_rfl)) (fun _ _ _ h => h) (Or.inl ⟨by rfl, ?_⟩) ?_ ?_
 rotate_left
 {
 intro w'
 go_simp
 with_reducible rfl
 }
 rotate_left
 {
 simp only [Act.put, List.setIfInBounds_toArray, List.set_cons_zero, List.set_cons_succ, i64_w, i32_w]
 rfl
 }
 exact norm_ (by first | (simp only [putAll, Act.put, List.setIfInBounds_toArray, List.set_cons_zero, List.set_cons_succ]; done) | (simp only [putAll, Act.put, List.setIfInBounds_toArray, List.set_cons_zero, List.set_cons_succ]; rfl)) (hJ0_2_4_5_7_11 (v334, v337, v340, .slice Ao3018 y342.length co3018, gb351) _ ⟨hHeld, (Rh HO341), (Rh HO344), (Rh HO_3), (Bh BK322), (Bh BK332), (Bh BK351), GW351.out, GE351.out, NB322_351.out, NB351_322.out, NB332_351.out, NB351_332.out, wB⟩)
 }
 }
 {
 skip
 rintro ⟨v334, v337, v340, v343⟩ w3018 ⟨hS_, h0_, h1_, h2_, h3_, h4_, h5_⟩
 have n0_ : Aside0 (Kd.R k76 76 w3018 w.heap.size (fun k_ => some k_ ≠ (v343 : Value).ownBlock ∧ some k_ ≠ (.slice Ao1005 t306.length co1005 : Value).ownBlock ∧ k_ ≠ gb322 ∧ k_ ≠ gb332) v340 y339) := ⟨h0_⟩
 have n1_ : Aside0 (Kd.R k76 76 w3018 w.heap.size (fun k_ => some k_ ≠ (v340 : Value).ownBlock ∧ some k_ ≠ (.slice Ao1005 t306.length co1005 : Value).ownBlock ∧ k_ ≠ gb322 ∧ k_ ≠ gb332) v343 y342) := ⟨h1_⟩
 have n2_ : Aside0 (Kd.R k76 76 w3018 w.heap.size (fun k_ => some k_ ≠ (v340 : Value).ownBlock ∧ some k_ ≠ (v343 : Value).ownBlock ∧ k_ ≠ gb322 ∧ k_ ≠ gb332) (.slice Ao1005 t306.length co1005) t306) := ⟨h2_⟩
 have n3_ : Aside0 (w3018.heap[gb322]? = some (.cells #[.int .i64 t316, .int .i64 t317, .int .i64 t318, .int .i64 t319, .int .i64 t320] 76 (0, 0))) := ⟨h3_⟩
 have n4_ : Aside0 (w3018.heap[gb332]? = some (.cells #[.int .i64 t316, .int .i64 t317, .int .i64 167772177, .int .i64 t319, .int .i64 t320] 76 (0, 0))) := ⟨h4_⟩
 have n5_ : Aside0 (Below w.heap.size w w3018) := ⟨h5_⟩
 clear HO_3
 clear BK322
 clear BK332
 clear HB
 clear h0_ h1_ h2_ h3_ h4_ h5_
 have HO341 := n0_
 have HO344 := n1_
 have HO_3 := n2_
 have BK322 := n3_
 have BK332 := n4_
 have HB := n5_
 clear n0_ n1_ n2_ n3_ n4_ n5_
 have hHeld : w3018.cell? ⟨gb332, 0, none⟩ = some (.int .i64 t316) ∧ w3018.cell? ⟨gb332, 1, none⟩ = some (.int .i64 t317) ∧ w3018.cell? ⟨gb332, 2, none⟩ = some (.int .i64 167772177) ∧ w3018.cell? ⟨gb332, 3, none⟩ = some (.int .i64 t319) ∧ w3018.cell? ⟨gb332, 4, none⟩ = some (.int .i64 t320) := hS_
 refine norm_ (a' := ?_) ?_ ?_
 rotate_left
 {
 simp only [putAll, Act.put, List.setIfInBounds_toArray, List.set_cons_zero, List.set_cons_succ]
 rfl
 }
 refine one_ (i := 11) (N := some 14) #[true, true, true, true, true, true, true, true, true, true, true, true, false, false] rfl rfl (one_of HT_.out (by kernel_rfl)) (by decide) (fun K hK => ?_)
 refine box_step ?hg (N := 14) ?hd (cs := #[.int .i64 0, .int .i64 0, .int .i64 0, .int .i64 0, .int .i64 0]) (t := 76) ?hr ?_; (case hd => rfl); (case hg => rfl); (case hr => first | (go_simp; done) | (go_simp; rfl))
 intro gb351 hg w3019 hbox hb
 have n0_ := Aside0.mk (Kd.R_below (Kd.R_elderB (Rh HO_3) gb351 (Nat.le_of_eq hg.symm)) hb)
 have n1_ := Aside0.mk (Kd.R_below (Kd.R_elderB (Rh HO341) gb351 (Nat.le_of_eq hg.symm)) hb)
 have n2_ := Aside0.mk (Kd.R_below (Kd.R_elderB (Rh HO344) gb351 (Nat.le_of_eq hg.symm)) hb)
 have n3_ := Aside0.mk (blk_below (Bh BK322) hb)
 have n4_ := Aside0.mk (blk_below (Bh BK332) hb)
 have n5_ := Aside0.mk (below_step wB hb)
 have n6_ := Aside0.mk (hbox)
 have n7_ := Aside0.mk ((by rw [hg]; exact (below_size wB) : w.heap.size ≤ gb351))
 have n8_ := Aside0.mk ((by rw [hg]; exact (below_size wB) : w.heap.size ≤ gb351))
 have n9_ := Aside0.mk ((by rw [hg]; exact Nat.ne_of_lt (blk_lt (Bh BK322)) : gb322 ≠ gb351))
 have n10_ := Aside0.mk ((by rw [hg]; exact Nat.ne_of_gt (blk_lt (Bh BK322)) : gb351 ≠ gb322))
 have n11_ := Aside0.mk ((by rw [hg]; exact Nat.ne_of_lt (blk_lt (Bh BK332)) : gb332 ≠ gb351))
 have n12_ := Aside0.mk ((by rw [hg]; exact Nat.ne_of_gt (blk_lt (Bh BK332)) : gb351 ≠ gb332))
 clear HO_3
 clear HO341
 clear HO344
 clear BK322
 clear BK332
 clear HB
 have HO_3 := n0_
 have HO341 := n1_
 have HO344 := n2_
 have BK322 := n3_
 have BK332 := n4_
 have HB := n5_
 have BK351 := n6_
 have GW351 := n7_
 have GE351 := n8_
 have NB322_351 := n9_
 have NB351_322 := n10_
 have NB332_351 := n11_
 have NB351_332 := n12_
 clear n0_ n1_ n2_ n3_ n4_ n5_ n6_ n7_ n8_ n9_ n10_ n11_ n12_
 clear hb hbox hg
 refine hK.out _ _ ⟨(blk_cell BK332.out 0).trans rfl, (blk_cell BK332.out 1).trans rfl, (blk_cell BK332.out 2).trans rfl, (blk_cell BK332.out 3).trans rfl, (blk_cell BK332.out 4).trans rfl⟩ (fun hHeld => ?_)
 clear hK K
 refine norm_ (a' := ?_) ?_ ?_
 rotate_left
 {
 show Act.put _ (some 14) _ = _
 simp only [Act.put, List.setIfInBounds_toArray, List.set_cons_zero, List.set_cons_succ, i64_w, i32_w]
 rfl
 }
 exact norm_ (by first | (simp only [putAll, Act.put, List.setIfInBounds_toArray, List.set_cons_zero, List.set_cons_succ]; done) | (simp only [putAll, Act.put, List.setIfInBounds_toArray, List.set_cons_zero, List.set_cons_succ]; rfl)) (hJ0_2_4_5_7_11 (v334, v337, v340, v343, gb351) _ ⟨hHeld, (Kd.R_mono (Rh HO341) (fun _ hk => ⟨hk.1.1, ⟨hk.1.2.1, ⟨hk.1.2.2.1, ⟨hk.1.2.2.2, hk.2⟩⟩⟩⟩)), (Kd.R_mono (Rh HO344) (fun _ hk => ⟨hk.1.1, ⟨hk.1.2.1, ⟨hk.1.2.2.1, ⟨hk.1.2.2.2, hk.2⟩⟩⟩⟩)), (Kd.R_mono (Rh HO_3) (fun _ hk => ⟨hk.1.1, ⟨hk.1.2.1, ⟨hk.1.2.2.1, ⟨hk.1.2.2.2, hk.2⟩⟩⟩⟩)), (Bh BK322), (Bh BK332), (Bh BK351), GW351.out, GE351.out, NB322_351.out, NB351_322.out, NB332_351.out, NB351_332.out, wB⟩)
 }
 }
 rintro ⟨v334, v337, v340, v343, gb351⟩ w3019 ⟨hS_, h0_, h1_, h2_, h3_, h4_, h5_, h6_, h7_, h8_, h9_, h10_, h11_, h12_⟩
 have n0_ : Aside0 (Kd.R k76 76 w3019 w.heap.size (fun k_ => some k_ ≠ (v343 : Value).ownBlock ∧ some k_ ≠ (.slice Ao1005 t306.length co1005 : Value).ownBlock ∧ k_ ≠ gb322 ∧ k_ ≠ gb332 ∧ k_ ≠ gb351) v340 y339) := ⟨h0_⟩
 have n1_ : Aside0 (Kd.R k76 76 w3019 w.heap.size (fun k_ => some k_ ≠ (v340 : Value).ownBlock ∧ some k_ ≠ (.slice Ao1005 t306.length co1005 : Value).ownBlock ∧ k_ ≠ gb322 ∧ k_ ≠ gb332 ∧ k_ ≠ gb351) v343 y342) := ⟨h1_⟩
 have n2_ : Aside0 (Kd.R k76 76 w3019 w.heap.size (fun k_ => some k_ ≠ (v340 : Value).ownBlock ∧ some k_ ≠ (v343 : Value).ownBlock ∧ k_ ≠ gb322 ∧ k_ ≠ gb332 ∧ k_ ≠ gb351) (.slice Ao1005 t306.length co1005) t306) := ⟨h2_⟩
 have n3_ : Aside0 (w3019.heap[gb322]? = some (.cells #[.int .i64 t316, .int .i64 t317, .int .i64 t318, .int .i64 t319, .int .i64 t320] 76 (0, 0))) := ⟨h3_⟩
 have n4_ : Aside0 (w3019.heap[gb332]? = some (.cells #[.int .i64 t316, .int .i64 t317, .int .i64 167772177, .int .i64 t319, .int .i64 t320] 76 (0, 0))) := ⟨h4_⟩
 have n5_ : Aside0 (w3019.heap[gb351]? = some (.cells #[.int .i64 0, .int .i64 0, .int .i64 0, .int .i64 0, .int .i64 0] 76 (0, 0))) := ⟨h5_⟩
 have n6_ : Aside0 (w.heap.size ≤ gb351) := ⟨h6_⟩
 have n7_ : Aside0 (w.heap.size ≤ gb351) := ⟨h7_⟩
 have n8_ : Aside0 (gb322 ≠ gb351) := ⟨h8_⟩
 have n9_ : Aside0 (gb351 ≠ gb322) := ⟨h9_⟩
 have n10_ : Aside0 (gb332 ≠ gb351) := ⟨h10_⟩
 have n11_ : Aside0 (gb351 ≠ gb332) := ⟨h11_⟩
 have n12_ : Aside0 (Below w.heap.size w w3019) := ⟨h12_⟩
 clear HO_3
 clear BK322
 clear BK332
 clear HB
 clear h0_ h1_ h2_ h3_ h4_ h5_ h6_ h7_ h8_ h9_ h10_ h11_ h12_
 have HO341 := n0_
 have HO344 := n1_
 have HO_3 := n2_
 have BK322 := n3_
 have BK332 := n4_
 have BK351 := n5_
 have GW351 := n6_
 have GE351 := n7_
 have NB322_351 := n8_
 have NB351_322 := n9_
 have NB332_351 := n10_
 have NB351_332 := n11_
 have HB := n12_
 clear n0_ n1_ n2_ n3_ n4_ n5_ n6_ n7_ n8_ n9_ n10_ n11_ n12_
 have hHeld : w3019.cell? ⟨gb332, 0, none⟩ = some (.int .i64 t316) ∧ w3019.cell? ⟨gb332, 1, none⟩ = some (.int .i64 t317) ∧ w3019.cell? ⟨gb332, 2, none⟩ = some (.int .i64 167772177) ∧ w3019.cell? ⟨gb332, 3, none⟩ = some (.int .i64 t319) ∧ w3019.cell? ⟨gb332, 4, none⟩ = some (.int .i64 t320) := hS_
 refine norm_ (a' := ?_) ?_ ?_
 rotate_left
 {
 simp only [putAll, Act.put, List.setIfInBounds_toArray, List.set_cons_zero, List.set_cons_succ]
 rfl
 }
 refine one_ (i := 12) (N := none) #[true, true, true, true, true, true, true, true, true, true, true, true, true, false] rfl rfl (one_of HT_.out (by kernel_rfl)) (by decide) (fun K hK => ?_)
 have hs3020 : w3019.cell? ⟨gb351, 0, none⟩ = some (.int .i64 0) := (blk_cell BK351.out 0).trans rfl
 have hfs3020 := blk_frozen BK351.out 0
 have hns3020_0 := NB322_351.out
 have hns3020_1 := NB332_351.out
 have hms3020_0 := NB351_322.out
 have hms3020_1 := NB351_332.out
 have hs3021 : w3019.cell? ⟨gb351, 1, none⟩ = some (.int .i64 0) := (blk_cell BK351.out 1).trans rfl
 have hfs3021 := blk_frozen BK351.out 1
 have hns3021_0 := NB322_351.out
 have hns3021_1 := NB332_351.out
 have hms3021_0 := NB351_322.out
 have hms3021_1 := NB351_332.out
 have hs3022 : w3019.cell? ⟨gb351, 2, none⟩ = some (.int .i64 0) := (blk_cell BK351.out 2).trans rfl
 have hfs3022 := blk_frozen BK351.out 2
 have hns3022_0 := NB322_351.out
 have hns3022_1 := NB332_351.out
 have hms3022_0 := NB351_322.out
 have hms3022_1 := NB351_332.out
 have hs3023 : w3019.cell? ⟨gb351, 3, none⟩ = some (.int .i64 0) := (blk_cell BK351.out 3).trans rfl
 have hfs3023 := blk_frozen BK351.out 3
 have hns3023_0 := NB322_351.out
 have hns3023_1 := NB332_351.out
 have hms3023_0 := NB351_322.out
 have hms3023_1 := NB351_332.out
 have hs3024 : w3019.cell? ⟨gb351, 4, none⟩ = some (.int .i64 0) := (blk_cell BK351.out 4).trans rfl
 have hfs3024 := blk_frozen BK351.out 4
 have hns3024_0 := NB322_351.out
 have hns3024_1 := NB332_351.out
 have hms3024_0 := NB351_322.out
 have hms3024_1 := NB351_332.out
 refine skip_ (w1 := ?_) (by rfl) rfl ?_ ?_
 rotate_left
 {
 go_simp
 rfl
 }
 refine hK.out _ _ ⟨((cell_far (p := ⟨gb351, _, none⟩) NB332_351.out _).trans (((cell_far (p := ⟨gb351, _, none⟩) NB332_351.out _).trans (((cell_far (p := ⟨gb351, _, none⟩) NB332_351.out _).trans (((cell_far (p := ⟨gb351, _, none⟩) NB332_351.out _).trans (((cell_far (p := ⟨gb351, _, none⟩) NB332_351.out _).trans (hHeld.1)))))))))), ((cell_far (p := ⟨gb351, _, none⟩) NB332_351.out _).trans (((cell_far (p := ⟨gb351, _, none⟩) NB332_351.out _).trans (((cell_far (p := ⟨gb351, _, none⟩) NB332_351.out _).trans (((cell_far (p := ⟨gb351, _, none⟩) NB332_351.out _).trans (((cell_far (p := ⟨gb351, _, none⟩) NB332_351.out _).trans (hHeld.2.1)))))))))), ((cell_far (p := ⟨gb351, _, none⟩) NB332_351.out _).trans (((cell_far (p := ⟨gb351, _, none⟩) NB332_351.out _).trans (((cell_far (p := ⟨gb351, _, none⟩) NB332_351.out _).trans (((cell_far (p := ⟨gb351, _, none⟩) NB332_351.out _).trans (((cell_far (p := ⟨gb351, _, none⟩) NB332_351.out _).trans (hHeld.2.2.1)))))))))), ((cell_far (p := ⟨gb351, _, none⟩) NB332_351.out _).trans (((cell_far (p := ⟨gb351, _, none⟩) NB332_351.out _).trans (((cell_far (p := ⟨gb351, _, none⟩) NB332_351.out _).trans (((cell_far (p := ⟨gb351, _, none⟩) NB332_351.out _).trans (((cell_far (p := ⟨gb351, _, none⟩) NB332_351.out _).trans (hHeld.2.2.2.1)))))))))), ((cell_far (p := ⟨gb351, _, none⟩) NB332_351.out _).trans (((cell_far (p := ⟨gb351, _, none⟩) NB332_351.out _).trans (((cell_far (p := ⟨gb351, _, none⟩) NB332_351.out _).trans (((cell_far (p := ⟨gb351, _, none⟩) NB332_351.out _).trans (((cell_far (p := ⟨gb351, _, none⟩) NB332_351.out _).trans (hHeld.2.2.2.2))))))))))⟩ (fun hHeld => ?_)
 clear hK K
 refine pure_ (i := 13) (N := some 15) (v := ?_) (a' := ?_) #[true, true, true, true, true, true, true, true, true, true, true, true, true, true] rfl rfl (any_of HT_.out (by kernel_rfl)) (fun _ _ _ h => h) (Or.inl ⟨by rfl, ?_⟩) ?_ ?_
 rotate_left
 {
 intro w'
 go_simp
 with_reducible rfl
 }
 rotate_left
 {
 simp only [Act.put, List.setIfInBounds_toArray, List.set_cons_zero, List.set_cons_succ, i64_w, i32_w]
 rfl
 }
 refine done_ (done_of HT_.out (by kernel_rfl)) ?_
 )
 rotate_left
 )
 rotate_right 2
 {
 have hnb3025 := NB351_322.out
 have hnc3025 := NB322_351.out
 have hnb3026 := NB351_332.out
 have hnc3026 := NB332_351.out
 obtain ⟨⟨hcz3027_0, hcz3027_1, hcz3027_2, hcz3027_3, hcz3027_4⟩, hfz3027_0, hfz3027_1, hfz3027_2, hfz3027_3, hfz3027_4⟩ := cells5 BK351.out
 obtain ⟨⟨hcz3028_0, hcz3028_1, hcz3028_2, hcz3028_3, hcz3028_4⟩, hfz3028_0, hfz3028_1, hfz3028_2, hfz3028_3, hfz3028_4⟩ := cells5 BK322.out
 try go_wp2
 go_ret
 exact ⟨by first | rfl | (simp [errW_none, errW_some] <;> rfl) | (simp [*, errW_none, errW_some] <;> rfl), wB⟩
 }
 {
 try go_wp2
 go_ret
 exact ⟨by first | rfl | (simp [errW_none, errW_some] <;> rfl) | (simp [*, errW_none, errW_some] <;> rfl), wB⟩
 }
 {
 go_wp2
 go_ret
 exact ⟨by first | rfl | (simp [errW_none, errW_some] <;> rfl) | (simp [*, errW_none, errW_some] <;> rfl), wB⟩
 }
 }
 )
 }
 }
 )
 }
 {
 rw [if_neg c4] at H
 exact absurd H (by simp)
 }
 }

/-- THE ONE PURE STATEMENT of laws_FnLongest: yours. -/
def laws_FnLongest.Pure : Prop := ∀ (l0 : List Int), l0.length ≤ maxLen → l0.length * 1 ≤ 140737488351232 → (∀ x ∈ l0, (Lit.int .u8 x).wf = true) → ∃ k, laws_FnLongest.f k l0 = some true
theorem laws_FnLongest.walk (P : laws_FnLongest.Pure) (a0 : Option Addr) (len0 cap0 : Nat) (z0 : List Int) (w : World) (w0 : (a0 = none ∧ len0 = 0 ∧ cap0 = 0 ∧ z0 = []) ∨ ∃ x, a0 = some x ∧ len0 ≤ cap0 ∧ cap0 ≤ maxLen ∧ z0.length = cap0 ∧ (∀ i, i < z0.length → w.cell? (x.add i) = some (.int .u8 (z0.getD i 0))) ∧ ∀ n ∈ z0, (Lit.int .u8 n).wf = true) (y0 : len0 * 1 ≤ 140737488351232) :
 Calls Try.prog 8 #[.slice a0 len0 cap0] w fun e w' => e = .returned (.bool true) ∧ Below w.heap.size w w' := by
 obtain ⟨l0, rfl, hr0, hm0, hw0, hc0⟩ := ReadsInt.ofRowC w0
 obtain ⟨k, h⟩ := P l0 hm0 y0 hw0
 refine (laws_FnLongest.calls k _ _ l0 true w (Kd.C_of_reads (d := (0 : Int)) (h1 := fun _ => rfl) hr0) hc0 h).mono ?_
 rintro e w' ⟨rfl, hd⟩
 exact ⟨rfl, hd⟩

end Go.Proofs.Ytkfbcmbemihbnaa.PFnLongest
