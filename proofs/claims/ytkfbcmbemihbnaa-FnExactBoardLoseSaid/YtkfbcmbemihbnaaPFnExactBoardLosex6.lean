-- Written for this claim by a program of this session (wip/mkprint.py: the print, turned at a few places). Not trusted: Lean checks it.
import Derived.Test.YtkfbcmbemihbnaaPFnExactBoardLosex0
import Derived.Test.YtkfbcmbemihbnaaPFnExactBoardLosex1
import Derived.Test.YtkfbcmbemihbnaaPFnExactBoardLosex2
import Derived.Test.YtkfbcmbemihbnaaPFnExactBoardLosex4
import Derived.Test.YtkfbcmbemihbnaaPFnExactBoardLosex5
namespace Go.Proofs.Ytkfbcmbemihbnaa.PFnExactBoardLose
open Go.RowKit Go.Proofs.YtkfbcmbemihbnaaW.PrintWords Go.Proofs.YtkfbcmbemihbnaaW.PrintLast Go.Proofs.YtkfbcmbemihbnaaW.PrintMore
attribute [local go_sem] max2_int min2_int max_two min_two max_three min_three max_four min_four   -- for this text's walks alone
set_option linter.unusedVariables false
set_option linter.unusedSimpArgs false

/-! ### laws_FnExactBoardLose: function 9 -/
mutual
def laws_FnExactBoardLose.j0 : Nat → Int → Int → Int → Int → Bool → Int → Int → List (S168) → Int → Int → List (S85) → Int → Int → List (S85) → Int → Int → List (S85) → Option (Bool)
  | 0, _, _, _, _, _, _, _, _, _, _, _, _, _, _, _, _, _ => none
  | k + 1, x5, x6, x9, x10, x50, x203000, x203001, x203002, x217000, x217001, x217002, x223000, x223001, x223002, x231000, x231001, x231002 => if x50 = true then (some false) else ((laws_toBoard.f k x203000 x203001 x203002).bind fun bt232 => ((laws_eqBoard.f k x223000 x223001 x223002 bt232.1 bt232.2.1 bt232.2.2).bind fun t237 => (if t237 = true then ((laws_markBoard.f k x223000 x223001 x223002 1).bind fun bt238 => (if bt238.1 < 0 then (laws_FnExactBoardLose.j1 k x5 x6 true x203000 x203001 x203002 x217000 x217001 x217002 x231000 x231001 x231002) else ((laws_eqBoard.f k x231000 x231001 x231002 x217000 x217001 x217002).bind fun t240 => (if t240 = true then (if x9 = x5 then (laws_FnExactBoardLose.j1 k x5 x6 (x10 != x6) x203000 x203001 x203002 x217000 x217001 x217002 x231000 x231001 x231002) else (laws_FnExactBoardLose.j1 k x5 x6 true x203000 x203001 x203002 x217000 x217001 x217002 x231000 x231001 x231002)) else (laws_FnExactBoardLose.j1 k x5 x6 true x203000 x203001 x203002 x217000 x217001 x217002 x231000 x231001 x231002))))) else (some false))))
def laws_FnExactBoardLose.j1 : Nat → Int → Int → Bool → Int → Int → List (S168) → Int → Int → List (S85) → Int → Int → List (S85) → Option (Bool)
  | 0, _, _, _, _, _, _, _, _, _, _, _, _ => none
  | k + 1, x5, x6, x76, x203000, x203001, x203002, x217000, x217001, x217002, x231000, x231001, x231002 => if x76 = true then (some false) else ((laws_markBoard.f k x231000 x231001 x231002 1).bind fun bt241 => ((laws_heldBoard.f k x231000 x231001 bt241.2 1).bind fun t243 => (if t243 < 0 then (some false) else (if t243 = bt241.1 then ((laws_toBoard.f k x203000 x203001 x203002).bind fun bt244 => ((impl_BoardLose.f k bt244.1 bt244.2.1 bt244.2.2).bind fun bt249 => ((laws_eqBoard.f k bt249.1 bt249.2.1 bt249.2.2.1 x217000 x217001 x217002).bind fun t257 => (if t257 = true then (if bt249.2.2.2.1 = x5 then (laws_FnExactBoardLose.j2 k bt241.1 (bt249.2.2.2.2 != x6) x231000 x231001 bt241.2) else (laws_FnExactBoardLose.j2 k bt241.1 true x231000 x231001 bt241.2)) else (laws_FnExactBoardLose.j2 k bt241.1 true x231000 x231001 bt241.2))))) else (some false)))))
def laws_FnExactBoardLose.j2 : Nat → Int → Bool → Int → Int → List (S85) → Option (Bool)
  | 0, _, _, _, _, _ => none
  | k + 1, x12, x108, x231000, x231001, x231002 => if x108 = true then (some false) else ((laws_heldBoard.f k x231000 x231001 x231002 1).bind fun t258 => (if t258 < 0 then (some false) else (if t258 = x12 then (some true) else (some false))))
end
def laws_FnExactBoardLose.f (k : Nat) (a0_0 : Int) (a0_1 : Int) (l0_2 : List (S168)) : Option (Bool) := (laws_szBoard.f a0_0 a0_1 l0_2 1048576).bind fun t203 => (if t203 < 0 then (some true) else ((laws_toBoard.f k a0_0 a0_1 l0_2).bind fun bt204 => ((spec_BoardLose.f k bt204.1 bt204.2.1 bt204.2.2).bind fun bt209 => ((laws_toBoard.f k a0_0 a0_1 l0_2).bind fun bt217 => ((impl_BoardLose.f k bt217.1 bt217.2.1 bt217.2.2).bind fun bt223 => ((laws_eqBoard.f k bt223.1 bt223.2.1 bt223.2.2.1 bt209.1 bt209.2.1 bt209.2.2.1).bind fun t231 => (if t231 = true then (if bt223.2.2.2.1 = bt209.2.2.2.1 then (laws_FnExactBoardLose.j0 k bt209.2.2.2.1 bt209.2.2.2.2 bt223.2.2.2.1 bt223.2.2.2.2 (bt223.2.2.2.2 != bt209.2.2.2.2) a0_0 a0_1 l0_2 bt209.1 bt209.2.1 bt209.2.2.1 bt217.1 bt217.2.1 bt217.2.2 bt223.1 bt223.2.1 bt223.2.2.1) else (laws_FnExactBoardLose.j0 k bt209.2.2.2.1 bt209.2.2.2.2 bt223.2.2.2.1 bt223.2.2.2.2 true a0_0 a0_1 l0_2 bt209.1 bt209.2.1 bt209.2.2.1 bt217.1 bt217.2.1 bt217.2.2 bt223.1 bt223.2.1 bt223.2.2.1)) else (laws_FnExactBoardLose.j0 k bt209.2.2.2.1 bt209.2.2.2.2 bt223.2.2.2.1 bt223.2.2.2.2 true a0_0 a0_1 l0_2 bt209.1 bt209.2.1 bt209.2.2.1 bt217.1 bt217.2.1 bt217.2.2 bt223.1 bt223.2.1 bt223.2.2.1))))))))
theorem laws_FnExactBoardLose.mono_l : ∀ k, (∀ y0 y1 y2 y3 y4 y5 y6 y7 y8 y9 y10 y11 y12 y13 y14 y15 y16, LeO (laws_FnExactBoardLose.j0 k y0 y1 y2 y3 y4 y5 y6 y7 y8 y9 y10 y11 y12 y13 y14 y15 y16) (laws_FnExactBoardLose.j0 (k + 1) y0 y1 y2 y3 y4 y5 y6 y7 y8 y9 y10 y11 y12 y13 y14 y15 y16)) ∧ (∀ y0 y1 y2 y3 y4 y5 y6 y7 y8 y9 y10 y11, LeO (laws_FnExactBoardLose.j1 k y0 y1 y2 y3 y4 y5 y6 y7 y8 y9 y10 y11) (laws_FnExactBoardLose.j1 (k + 1) y0 y1 y2 y3 y4 y5 y6 y7 y8 y9 y10 y11)) ∧ (∀ y0 y1 y2 y3 y4, LeO (laws_FnExactBoardLose.j2 k y0 y1 y2 y3 y4) (laws_FnExactBoardLose.j2 (k + 1) y0 y1 y2 y3 y4))
  | 0 => ⟨fun _ _ _ _ _ _ _ _ _ _ _ _ _ _ _ _ _ r h => by simp [laws_FnExactBoardLose.j0] at h, fun _ _ _ _ _ _ _ _ _ _ _ _ r h => by simp [laws_FnExactBoardLose.j1] at h, fun _ _ _ _ _ r h => by simp [laws_FnExactBoardLose.j2] at h⟩
  | k + 1 => by
    obtain ⟨ih0, ih1, ih2⟩ := laws_FnExactBoardLose.mono_l k
    refine ⟨?_, ?_, ?_⟩
    · intro y0 y1 y2 y3 y4 y5 y6 y7 y8 y9 y10 y11 y12 y13 y14 y15 y16
      unfold laws_FnExactBoardLose.j0
      repeat' first
      | (with_reducible exact ih0 _ _ _ _ _ _ _ _ _ _ _ _ _ _ _ _ _)
      | (with_reducible exact ih1 _ _ _ _ _ _ _ _ _ _ _ _)
      | (with_reducible exact ih2 _ _ _ _ _)
      | (with_reducible exact impl_BoardLose.mono _ _ _ _)
      | (with_reducible exact laws_eqBoard.mono _ _ _ _ _ _ _)
      | (with_reducible exact laws_heldBoard.mono _ _ _ _ _)
      | (with_reducible exact laws_markBoard.mono _ _ _ _ _)
      | (with_reducible exact laws_toBoard.mono _ _ _ _)
      | (with_reducible exact spec_BoardLose.mono _ _ _ _)
      | (with_reducible exact LeO.refl _)
      | (with_reducible exact LeO.none _)
      | (with_reducible refine LeO.ite ?_ ?_)
      | (with_reducible refine LeO.bind ?_ (fun _ => ?_))
      | exact ih0 _ _ _ _ _ _ _ _ _ _ _ _ _ _ _ _ _
      | exact ih1 _ _ _ _ _ _ _ _ _ _ _ _
      | exact ih2 _ _ _ _ _
      | exact impl_BoardLose.mono _ _ _ _
      | exact laws_eqBoard.mono _ _ _ _ _ _ _
      | exact laws_heldBoard.mono _ _ _ _ _
      | exact laws_markBoard.mono _ _ _ _ _
      | exact laws_toBoard.mono _ _ _ _
      | exact spec_BoardLose.mono _ _ _ _
      | exact LeO.none _
      | refine LeO.ite ?_ ?_
      | refine LeO.bind ?_ (fun _ => ?_)
    · intro y0 y1 y2 y3 y4 y5 y6 y7 y8 y9 y10 y11
      unfold laws_FnExactBoardLose.j1
      repeat' first
      | (with_reducible exact ih0 _ _ _ _ _ _ _ _ _ _ _ _ _ _ _ _ _)
      | (with_reducible exact ih1 _ _ _ _ _ _ _ _ _ _ _ _)
      | (with_reducible exact ih2 _ _ _ _ _)
      | (with_reducible exact impl_BoardLose.mono _ _ _ _)
      | (with_reducible exact laws_eqBoard.mono _ _ _ _ _ _ _)
      | (with_reducible exact laws_heldBoard.mono _ _ _ _ _)
      | (with_reducible exact laws_markBoard.mono _ _ _ _ _)
      | (with_reducible exact laws_toBoard.mono _ _ _ _)
      | (with_reducible exact spec_BoardLose.mono _ _ _ _)
      | (with_reducible exact LeO.refl _)
      | (with_reducible exact LeO.none _)
      | (with_reducible refine LeO.ite ?_ ?_)
      | (with_reducible refine LeO.bind ?_ (fun _ => ?_))
      | exact ih0 _ _ _ _ _ _ _ _ _ _ _ _ _ _ _ _ _
      | exact ih1 _ _ _ _ _ _ _ _ _ _ _ _
      | exact ih2 _ _ _ _ _
      | exact impl_BoardLose.mono _ _ _ _
      | exact laws_eqBoard.mono _ _ _ _ _ _ _
      | exact laws_heldBoard.mono _ _ _ _ _
      | exact laws_markBoard.mono _ _ _ _ _
      | exact laws_toBoard.mono _ _ _ _
      | exact spec_BoardLose.mono _ _ _ _
      | exact LeO.none _
      | refine LeO.ite ?_ ?_
      | refine LeO.bind ?_ (fun _ => ?_)
    · intro y0 y1 y2 y3 y4
      unfold laws_FnExactBoardLose.j2
      repeat' first
      | (with_reducible exact ih0 _ _ _ _ _ _ _ _ _ _ _ _ _ _ _ _ _)
      | (with_reducible exact ih1 _ _ _ _ _ _ _ _ _ _ _ _)
      | (with_reducible exact ih2 _ _ _ _ _)
      | (with_reducible exact impl_BoardLose.mono _ _ _ _)
      | (with_reducible exact laws_eqBoard.mono _ _ _ _ _ _ _)
      | (with_reducible exact laws_heldBoard.mono _ _ _ _ _)
      | (with_reducible exact laws_markBoard.mono _ _ _ _ _)
      | (with_reducible exact laws_toBoard.mono _ _ _ _)
      | (with_reducible exact spec_BoardLose.mono _ _ _ _)
      | (with_reducible exact LeO.refl _)
      | (with_reducible exact LeO.none _)
      | (with_reducible refine LeO.ite ?_ ?_)
      | (with_reducible refine LeO.bind ?_ (fun _ => ?_))
      | exact ih0 _ _ _ _ _ _ _ _ _ _ _ _ _ _ _ _ _
      | exact ih1 _ _ _ _ _ _ _ _ _ _ _ _
      | exact ih2 _ _ _ _ _
      | exact impl_BoardLose.mono _ _ _ _
      | exact laws_eqBoard.mono _ _ _ _ _ _ _
      | exact laws_heldBoard.mono _ _ _ _ _
      | exact laws_markBoard.mono _ _ _ _ _
      | exact laws_toBoard.mono _ _ _ _
      | exact spec_BoardLose.mono _ _ _ _
      | exact LeO.none _
      | refine LeO.ite ?_ ?_
      | refine LeO.bind ?_ (fun _ => ?_)
theorem laws_FnExactBoardLose.mono : ∀ a0 a1 a2 k, LeO (laws_FnExactBoardLose.f k a0 a1 a2) (laws_FnExactBoardLose.f (k + 1) a0 a1 a2) := by
 intro a0 a1 a2 k
 obtain ⟨ih0, ih1, ih2⟩ := laws_FnExactBoardLose.mono_l k
 unfold laws_FnExactBoardLose.f
 repeat' first
     | (with_reducible exact ih0 _ _ _ _ _ _ _ _ _ _ _ _ _ _ _ _ _)
     | (with_reducible exact ih1 _ _ _ _ _ _ _ _ _ _ _ _)
     | (with_reducible exact ih2 _ _ _ _ _)
     | (with_reducible exact impl_BoardLose.mono _ _ _ _)
     | (with_reducible exact laws_eqBoard.mono _ _ _ _ _ _ _)
     | (with_reducible exact laws_heldBoard.mono _ _ _ _ _)
     | (with_reducible exact laws_markBoard.mono _ _ _ _ _)
     | (with_reducible exact laws_toBoard.mono _ _ _ _)
     | (with_reducible exact spec_BoardLose.mono _ _ _ _)
     | (with_reducible exact LeO.refl _)
     | (with_reducible exact LeO.none _)
     | (with_reducible refine LeO.ite ?_ ?_)
     | (with_reducible refine LeO.bind ?_ (fun _ => ?_))
     | exact ih0 _ _ _ _ _ _ _ _ _ _ _ _ _ _ _ _ _
     | exact ih1 _ _ _ _ _ _ _ _ _ _ _ _
     | exact ih2 _ _ _ _ _
     | exact impl_BoardLose.mono _ _ _ _
     | exact laws_eqBoard.mono _ _ _ _ _ _ _
     | exact laws_heldBoard.mono _ _ _ _ _
     | exact laws_markBoard.mono _ _ _ _ _
     | exact laws_toBoard.mono _ _ _ _
     | exact spec_BoardLose.mono _ _ _ _
     | exact LeO.none _
     | refine LeO.ite ?_ ?_
     | refine LeO.bind ?_ (fun _ => ?_)
set_option maxHeartbeats 60000000 in
set_option maxRecDepth 100000 in
theorem laws_FnExactBoardLose.calls (k : Nat) (a0_0 : Int) (a0_1 : Int) (A0_2 : Option Addr) (c0_2 : Nat) (l0_2 : List (S168)) (r : Bool) (w : World) (hr0_2 : Kd.C k168 w A0_2 l0_2.length l0_2) (hc0_2 : l0_2.length ≤ c0_2) (h : laws_FnExactBoardLose.f k a0_0 a0_1 l0_2 = some r) :
 Calls Try.prog 9 #[.agg #[.int .i64 a0_0, .int .i64 a0_1, .slice A0_2 l0_2.length c0_2]] w fun e w' => e = .returned (.bool r) ∧ Below w.heap.size w w' := by
 have hu59 := Try.underlying59
 have hu63 := Try.underlying63
 have HR0_2 := Aside0.mk hr0_2
 have HC0_2 := Aside0.mk hc0_2
 clear hr0_2 hc0_2
 have HB := Aside0.mk (Below.refl w.heap.size w)
 have H : ((laws_szBoard.f a0_0 a0_1 l0_2 1048576).bind fun t203 => (if t203 < 0 then (some true) else ((laws_toBoard.f k a0_0 a0_1 l0_2).bind fun bt204 => ((spec_BoardLose.f k bt204.1 bt204.2.1 bt204.2.2).bind fun bt209 => ((laws_toBoard.f k a0_0 a0_1 l0_2).bind fun bt217 => ((impl_BoardLose.f k bt217.1 bt217.2.1 bt217.2.2).bind fun bt223 => ((laws_eqBoard.f k bt223.1 bt223.2.1 bt223.2.2.1 bt209.1 bt209.2.1 bt209.2.2.1).bind fun t231 => (if t231 = true then (if bt223.2.2.2.1 = bt209.2.2.2.1 then (laws_FnExactBoardLose.j0 k bt209.2.2.2.1 bt209.2.2.2.2 bt223.2.2.2.1 bt223.2.2.2.2 (bt223.2.2.2.2 != bt209.2.2.2.2) a0_0 a0_1 l0_2 bt209.1 bt209.2.1 bt209.2.2.1 bt217.1 bt217.2.1 bt217.2.2 bt223.1 bt223.2.1 bt223.2.2.1) else (laws_FnExactBoardLose.j0 k bt209.2.2.2.1 bt209.2.2.2.2 bt223.2.2.2.1 bt223.2.2.2.2 true a0_0 a0_1 l0_2 bt209.1 bt209.2.1 bt209.2.2.1 bt217.1 bt217.2.1 bt217.2.2 bt223.1 bt223.2.1 bt223.2.2.1)) else (laws_FnExactBoardLose.j0 k bt209.2.2.2.1 bt209.2.2.2.2 bt223.2.2.2.1 bt223.2.2.2.2 true a0_0 a0_1 l0_2 bt209.1 bt209.2.1 bt209.2.2.1 bt217.1 bt217.2.1 bt217.2.2 bt223.1 bt223.2.1 bt223.2.2.1))))))))) = some r := h
 clear h
 replace H := Option.bind_eq_some_iff.mp H
 obtain ⟨t203, A20, H⟩ := H
 replace H : (if t203 < 0 then (some true) else ((laws_toBoard.f k a0_0 a0_1 l0_2).bind fun bt204 => ((spec_BoardLose.f k bt204.1 bt204.2.1 bt204.2.2).bind fun bt209 => ((laws_toBoard.f k a0_0 a0_1 l0_2).bind fun bt217 => ((impl_BoardLose.f k bt217.1 bt217.2.1 bt217.2.2).bind fun bt223 => ((laws_eqBoard.f k bt223.1 bt223.2.1 bt223.2.2.1 bt209.1 bt209.2.1 bt209.2.2.1).bind fun t231 => (if t231 = true then (if bt223.2.2.2.1 = bt209.2.2.2.1 then (laws_FnExactBoardLose.j0 k bt209.2.2.2.1 bt209.2.2.2.2 bt223.2.2.2.1 bt223.2.2.2.2 (bt223.2.2.2.2 != bt209.2.2.2.2) a0_0 a0_1 l0_2 bt209.1 bt209.2.1 bt209.2.2.1 bt217.1 bt217.2.1 bt217.2.2 bt223.1 bt223.2.1 bt223.2.2.1) else (laws_FnExactBoardLose.j0 k bt209.2.2.2.1 bt209.2.2.2.2 bt223.2.2.2.1 bt223.2.2.2.2 true a0_0 a0_1 l0_2 bt209.1 bt209.2.1 bt209.2.2.1 bt217.1 bt217.2.1 bt217.2.2 bt223.1 bt223.2.1 bt223.2.2.1)) else (laws_FnExactBoardLose.j0 k bt209.2.2.2.1 bt209.2.2.2.2 bt223.2.2.2.1 bt223.2.2.2.2 true a0_0 a0_1 l0_2 bt209.1 bt209.2.1 bt209.2.2.1 bt217.1 bt217.2.1 bt217.2.2 bt223.1 bt223.2.1 bt223.2.2.1)))))))) = some r := H
 have A2 := Aside0.mk A20
 clear A20
 by_cases c3 : t203 < 0
 {
 rw [if_pos c3] at H
 have c3b0 : decide (t203 < 0) = true := decide_eq_true c3
 clear c3
 obtain rfl := Option.some.inj H
 go_enter Try.func9, Try.ntmps9
 go_wp2_with (first | ((with_reducible refine gate_dst (N := 1) rfl ?_); refine box_event ?hg (N := 1) ?hd (cs := #[.int .i64 a0_0, .int .i64 a0_1, .slice A0_2 l0_2.length c0_2]) (t := 59) ?hr ?_; (case hd => rfl); (case hg => rfl); (case hr => first | (go_simp; done) | (go_simp; rfl)); intro gb202 hg w1001 hbox hb; have n0_ := Aside0.mk (below_step wB hb); have n1_ := Aside0.mk (hbox); have n2_ := Aside0.mk ((by rw [hg]; exact (below_size wB) : w.heap.size ≤ gb202)); have n3_ := Aside0.mk ((by rw [hg]; exact (below_size wB) : w.heap.size ≤ gb202)); clear HB; have HB := n0_; have BK202 := n1_; have GW202 := n2_; have GE202 := n3_; clear n0_ n1_ n2_ n3_; clear hb hbox hg; obtain ⟨⟨hcz1002_0, hcz1002_1, hcz1002_2⟩, hfz1002_0, hfz1002_1, hfz1002_2⟩ := cells3 BK202.out) | ((with_reducible refine gate_callee (f := 36) rfl ?_); refine goesL_ (some 19) rfl rfl Try.func36 (by kernel_rfl) rfl #[.agg #[.int .i64 a0_0, .int .i64 a0_1, .slice A0_2 l0_2.length c0_2], .int .i64 1048576] rfl wT ?_; (with_reducible refine (laws_szBoard.calls a0_0 a0_1 _ _ l0_2 1048576 t203 _ ?side1 ?side2 A2.out).mono ?_); (case side1 => exact Kd.C_below HR0_2.out wB); (case side2 => exact HC0_2.out); rintro e w1003 ⟨rfl, hb⟩; refine ⟨_, rfl, ?_⟩; have n0_ := Aside0.mk (blk_below (Bh BK202) hb); have n1_ := Aside0.mk (below_step wB hb); clear BK202; clear HB; have BK202 := n0_; have HB := n1_; clear n0_ n1_; (try clear hb); (try clear hb2); (try clear hk); (try clear hi)))
 go_ret
 exact ⟨by first | rfl | (simp [errW_none, errW_some] <;> rfl) | (simp [*, errW_none, errW_some] <;> rfl), wB⟩
 }
 {
 rw [if_neg c3] at H
 have c3b0 : decide (t203 < 0) = false := decide_eq_false c3
 clear c3
 replace H := Option.bind_eq_some_iff.mp H
 obtain ⟨⟨t204, t205, t206⟩, A40, H⟩ := H
 replace H : ((spec_BoardLose.f k t204 t205 t206).bind fun bt209 => ((laws_toBoard.f k a0_0 a0_1 l0_2).bind fun bt217 => ((impl_BoardLose.f k bt217.1 bt217.2.1 bt217.2.2).bind fun bt223 => ((laws_eqBoard.f k bt223.1 bt223.2.1 bt223.2.2.1 bt209.1 bt209.2.1 bt209.2.2.1).bind fun t231 => (if t231 = true then (if bt223.2.2.2.1 = bt209.2.2.2.1 then (laws_FnExactBoardLose.j0 k bt209.2.2.2.1 bt209.2.2.2.2 bt223.2.2.2.1 bt223.2.2.2.2 (bt223.2.2.2.2 != bt209.2.2.2.2) a0_0 a0_1 l0_2 bt209.1 bt209.2.1 bt209.2.2.1 bt217.1 bt217.2.1 bt217.2.2 bt223.1 bt223.2.1 bt223.2.2.1) else (laws_FnExactBoardLose.j0 k bt209.2.2.2.1 bt209.2.2.2.2 bt223.2.2.2.1 bt223.2.2.2.2 true a0_0 a0_1 l0_2 bt209.1 bt209.2.1 bt209.2.2.1 bt217.1 bt217.2.1 bt217.2.2 bt223.1 bt223.2.1 bt223.2.2.1)) else (laws_FnExactBoardLose.j0 k bt209.2.2.2.1 bt209.2.2.2.2 bt223.2.2.2.1 bt223.2.2.2.2 true a0_0 a0_1 l0_2 bt209.1 bt209.2.1 bt209.2.2.1 bt217.1 bt217.2.1 bt217.2.2 bt223.1 bt223.2.1 bt223.2.2.1)))))) = some r := H
 have A4 := Aside0.mk A40
 clear A40
 replace H := Option.bind_eq_some_iff.mp H
 obtain ⟨⟨t209, t210, t211, t214, t215⟩, A50, H⟩ := H
 replace H : ((laws_toBoard.f k a0_0 a0_1 l0_2).bind fun bt217 => ((impl_BoardLose.f k bt217.1 bt217.2.1 bt217.2.2).bind fun bt223 => ((laws_eqBoard.f k bt223.1 bt223.2.1 bt223.2.2.1 t209 t210 t211).bind fun t231 => (if t231 = true then (if bt223.2.2.2.1 = t214 then (laws_FnExactBoardLose.j0 k t214 t215 bt223.2.2.2.1 bt223.2.2.2.2 (bt223.2.2.2.2 != t215) a0_0 a0_1 l0_2 t209 t210 t211 bt217.1 bt217.2.1 bt217.2.2 bt223.1 bt223.2.1 bt223.2.2.1) else (laws_FnExactBoardLose.j0 k t214 t215 bt223.2.2.2.1 bt223.2.2.2.2 true a0_0 a0_1 l0_2 t209 t210 t211 bt217.1 bt217.2.1 bt217.2.2 bt223.1 bt223.2.1 bt223.2.2.1)) else (laws_FnExactBoardLose.j0 k t214 t215 bt223.2.2.2.1 bt223.2.2.2.2 true a0_0 a0_1 l0_2 t209 t210 t211 bt217.1 bt217.2.1 bt217.2.2 bt223.1 bt223.2.1 bt223.2.2.1))))) = some r := H
 have A5 := Aside0.mk A50
 clear A50
 replace H := Option.bind_eq_some_iff.mp H
 obtain ⟨⟨t217, t218, t219⟩, A60, H⟩ := H
 replace H : ((impl_BoardLose.f k t217 t218 t219).bind fun bt223 => ((laws_eqBoard.f k bt223.1 bt223.2.1 bt223.2.2.1 t209 t210 t211).bind fun t231 => (if t231 = true then (if bt223.2.2.2.1 = t214 then (laws_FnExactBoardLose.j0 k t214 t215 bt223.2.2.2.1 bt223.2.2.2.2 (bt223.2.2.2.2 != t215) a0_0 a0_1 l0_2 t209 t210 t211 t217 t218 t219 bt223.1 bt223.2.1 bt223.2.2.1) else (laws_FnExactBoardLose.j0 k t214 t215 bt223.2.2.2.1 bt223.2.2.2.2 true a0_0 a0_1 l0_2 t209 t210 t211 t217 t218 t219 bt223.1 bt223.2.1 bt223.2.2.1)) else (laws_FnExactBoardLose.j0 k t214 t215 bt223.2.2.2.1 bt223.2.2.2.2 true a0_0 a0_1 l0_2 t209 t210 t211 t217 t218 t219 bt223.1 bt223.2.1 bt223.2.2.1)))) = some r := H
 have A6 := Aside0.mk A60
 clear A60
 replace H := Option.bind_eq_some_iff.mp H
 obtain ⟨⟨t223, t224, t225, t228, t229⟩, A70, H⟩ := H
 replace H : ((laws_eqBoard.f k t223 t224 t225 t209 t210 t211).bind fun t231 => (if t231 = true then (if t228 = t214 then (laws_FnExactBoardLose.j0 k t214 t215 t228 t229 (t229 != t215) a0_0 a0_1 l0_2 t209 t210 t211 t217 t218 t219 t223 t224 t225) else (laws_FnExactBoardLose.j0 k t214 t215 t228 t229 true a0_0 a0_1 l0_2 t209 t210 t211 t217 t218 t219 t223 t224 t225)) else (laws_FnExactBoardLose.j0 k t214 t215 t228 t229 true a0_0 a0_1 l0_2 t209 t210 t211 t217 t218 t219 t223 t224 t225))) = some r := H
 have A7 := Aside0.mk A70
 clear A70
 have HC8 := Aside0.mk H
 clear H
 go_enter Try.func9, Try.ntmps9
 go_upto_region 8 with (first | ((with_reducible refine gate_dst (N := 1) rfl ?_); refine box_event ?hg (N := 1) ?hd (cs := #[.int .i64 a0_0, .int .i64 a0_1, .slice A0_2 l0_2.length c0_2]) (t := 59) ?hr ?_; (case hd => rfl); (case hg => rfl); (case hr => first | (go_simp; done) | (go_simp; rfl)); intro gb202 hg w1001 hbox hb; have n0_ := Aside0.mk (below_step wB hb); have n1_ := Aside0.mk (hbox); have n2_ := Aside0.mk ((by rw [hg]; exact (below_size wB) : w.heap.size ≤ gb202)); have n3_ := Aside0.mk ((by rw [hg]; exact (below_size wB) : w.heap.size ≤ gb202)); clear HB; have HB := n0_; have BK202 := n1_; have GW202 := n2_; have GE202 := n3_; clear n0_ n1_ n2_ n3_; clear hb hbox hg; obtain ⟨⟨hcz1002_0, hcz1002_1, hcz1002_2⟩, hfz1002_0, hfz1002_1, hfz1002_2⟩ := cells3 BK202.out) | ((with_reducible refine gate_callee (f := 36) rfl ?_); refine goesL_ (some 19) rfl rfl Try.func36 (by kernel_rfl) rfl #[.agg #[.int .i64 a0_0, .int .i64 a0_1, .slice A0_2 l0_2.length c0_2], .int .i64 1048576] rfl wT ?_; (with_reducible refine (laws_szBoard.calls a0_0 a0_1 _ _ l0_2 1048576 t203 _ ?side1 ?side2 A2.out).mono ?_); (case side1 => exact Kd.C_below HR0_2.out wB); (case side2 => exact HC0_2.out); rintro e w1003 ⟨rfl, hb⟩; refine ⟨_, rfl, ?_⟩; have n0_ := Aside0.mk (blk_below (Bh BK202) hb); have n1_ := Aside0.mk (below_step wB hb); clear BK202; clear HB; have BK202 := n0_; have HB := n1_; clear n0_ n1_; (try clear hb); (try clear hb2); (try clear hk); (try clear hi); obtain ⟨⟨hcz1004_0, hcz1004_1, hcz1004_2⟩, hfz1004_0, hfz1004_1, hfz1004_2⟩ := cells3 BK202.out) | ((with_reducible refine gate_callee (f := 38) rfl ?_); refine goesL_ (some 24) rfl rfl Try.func38 (by kernel_rfl) rfl #[.agg #[.int .i64 a0_0, .int .i64 a0_1, .slice A0_2 l0_2.length c0_2]] rfl wT ?_; (with_reducible refine (laws_toBoard.calls k a0_0 a0_1 _ _ l0_2 t204 t205 t206 _ ?side1 ?side2 A4.out).mono ?_); (case side1 => exact Kd.C_below HR0_2.out wB); (case side2 => exact HC0_2.out); rintro e w1005 ⟨v207, rfl, ho0, hb⟩; refine ⟨_, rfl, ?_⟩; have n0_ := Aside0.mk (Kd.R_lower ho0 (below_size wB)); have n1_ := Aside0.mk (blk_below (Bh BK202) hb); have n2_ := Aside0.mk (below_step wB hb); clear BK202; clear HB; have HO208 := n0_; have BK202 := n1_; have HB := n2_; clear n0_ n1_ n2_; (try clear hb); (try clear hb2); (try clear hk); (try clear hi); (try clear ho0); obtain ⟨Ao1006, co1006, eo1006⟩ := Kd.R_slice HO208.out; subst eo1006) | ((with_reducible refine gate_callee (f := 47) rfl ?_); refine goesL_ (some 25) rfl rfl Try.func47 (by kernel_rfl) rfl #[.agg #[.int .i64 t204, .int .i64 t205, .slice Ao1006 t206.length co1006]] rfl wT ?_; (with_reducible refine (spec_BoardLose.calls k t204 t205 _ _ t206 t209 t210 t211 t214 t215 _ ?side1 ?side2 A5.out).mono ?_); (case side1 => exact Ch HO208); (case side2 => exact (Kd.R_reads' HO208.out).2.1); rintro e w1007 ⟨v212, rfl, ho0, hb⟩; refine ⟨_, rfl, ?_⟩; have n0_ := Aside0.mk (Kd.R_elder' (Rh HO208) (Kd.R_base ho0) hb); have n1_ := Aside0.mk (Kd.R_lower (Kd.R_new' ho0 (Kd.R_lt (Rh HO208))) (below_size wB)); have n2_ := Aside0.mk (blk_below (Bh BK202) hb); have n3_ := Aside0.mk (below_step wB hb); clear HO208; clear BK202; clear HB; have HO208 := n0_; have HO213 := n1_; have BK202 := n2_; have HB := n3_; clear n0_ n1_ n2_ n3_; (try clear hb); (try clear hb2); (try clear hk); (try clear hi); (try clear ho0)) | ((with_reducible refine gate_dst (N := 4) rfl ?_); refine box_event ?hg (N := 4) ?hd (cs := #[.int .i64 0, .int .i64 0, .slice none 0 0]) (t := 63) ?hr ?_; (case hd => rfl); (case hg => rfl); (case hr => first | (go_simp; done) | (go_simp; rfl)); intro gb216 hg w1008 hbox hb; have n0_ := Aside0.mk (Kd.R_below (Rh HO208) hb); have n1_ := Aside0.mk (Kd.R_below (Rh HO213) hb); have n2_ := Aside0.mk (blk_below (Bh BK202) hb); have n3_ := Aside0.mk (below_step wB hb); have n4_ := Aside0.mk (hbox); have n5_ := Aside0.mk ((by rw [hg]; exact (below_size wB) : w.heap.size ≤ gb216)); have n6_ := Aside0.mk ((by rw [hg]; exact (below_size wB) : w.heap.size ≤ gb216)); have n7_ := Aside0.mk ((by rw [hg]; exact Nat.ne_of_lt (blk_lt (Bh BK202)) : gb202 ≠ gb216)); have n8_ := Aside0.mk ((by rw [hg]; exact Nat.ne_of_gt (blk_lt (Bh BK202)) : gb216 ≠ gb202)); clear HO208; clear HO213; clear BK202; clear HB; have HO208 := n0_; have HO213 := n1_; have BK202 := n2_; have HB := n3_; have BK216 := n4_; have GW216 := n5_; have GE216 := n6_; have NB202_216 := n7_; have NB216_202 := n8_; clear n0_ n1_ n2_ n3_ n4_ n5_ n6_ n7_ n8_; clear hb hbox hg; have hnb1009 := NB216_202.out; have hnc1009 := NB202_216.out; obtain ⟨⟨hcz1010_0, hcz1010_1, hcz1010_2⟩, hfz1010_0, hfz1010_1, hfz1010_2⟩ := cells3 BK216.out; obtain ⟨Ao1011, co1011, eo1011⟩ := Kd.R_slice HO213.out; subst eo1011) | ((with_reducible refine gate_store (t := 63) (p := 4) rfl ?_); (try (rw [drewN_self w1008]; generalize hq_ : World.drewN w1008 _ = w1008; have n0_ := Aside0.mk (Kd.R_at hq_ HO208.out); have n1_ := Aside0.mk (Kd.R_at hq_ HO213.out); have n2_ := Aside0.mk (blk_at hq_ BK202.out); have n3_ := Aside0.mk (blk_at hq_ BK216.out); have n4_ := Aside0.mk (below_at hq_ HB.out); clear hq_ HO208 HO213 BK202 BK216 HB; have HO208 := n0_; have HO213 := n1_; have BK202 := n2_; have BK216 := n3_; have HB := n4_; clear n0_ n1_ n2_ n3_ n4_; (try (obtain ⟨⟨hcyBK202_0, hcyBK202_1, hcyBK202_2⟩, hfyBK202_0, hfyBK202_1, hfyBK202_2⟩ := cells3 BK202.out)); (try (obtain ⟨⟨hcyBK216_0, hcyBK216_1, hcyBK216_2⟩, hfyBK216_0, hfyBK216_1, hfyBK216_2⟩ := cells3 BK216.out)))); refine store_event (t := 63) (p := 4) (v := ?_) (w1 := (((w1008.setCell ⟨gb216, 0, none⟩ (.int .i64 t209)).setCell ⟨gb216, 1, none⟩ (.int .i64 t210)).setCell ⟨gb216, 2, none⟩ (.slice Ao1011 t211.length co1011))) ?hg ?ho ?hn ?hr ?_; (case ho => rfl); (case hg => rfl); (case hn => rfl); (case hr => first | (go_simp; done) | (go_simp; rfl)); intro w1012 hw; have n0_ : Aside0 (Kd.R k85 85 w1012 w.heap.size (fun k_ => some k_ ≠ (.slice Ao1011 t211.length co1011 : Value).ownBlock) (.slice Ao1006 t206.length co1006) t206) := ⟨(by rw [hw]; exact (by (with_reducible repeat (first | apply Kd.R_alloc | apply Kd.R_drewN | apply Kd.R_drew)); exact Kd.R_mono (Kd.R_far (p := ⟨gb216, 2, none⟩) (Kd.R_far (p := ⟨gb216, 1, none⟩) (Kd.R_far (p := ⟨gb216, 0, none⟩) (Kd.R_types HO208.out BK216.out (by decide)) (fun _ hk => hk.2) (.int .i64 t209)) (fun _ hk => hk.2) (.int .i64 t210)) (fun _ hk => hk.2) (.slice Ao1011 t211.length co1011)) (fun _ hk => hk.1.2)))⟩; have n1_ : Aside0 (Kd.R k85 85 w1012 w.heap.size (fun k_ => some k_ ≠ (.slice Ao1006 t206.length co1006 : Value).ownBlock) (.slice Ao1011 t211.length co1011) t211) := ⟨(by rw [hw]; exact (by (with_reducible repeat (first | apply Kd.R_alloc | apply Kd.R_drewN | apply Kd.R_drew)); exact Kd.R_mono (Kd.R_far (p := ⟨gb216, 2, none⟩) (Kd.R_far (p := ⟨gb216, 1, none⟩) (Kd.R_far (p := ⟨gb216, 0, none⟩) (Kd.R_types HO213.out BK216.out (by decide)) (fun _ hk => hk.2) (.int .i64 t209)) (fun _ hk => hk.2) (.int .i64 t210)) (fun _ hk => hk.2) (.slice Ao1011 t211.length co1011)) (fun _ hk => hk.1.2)))⟩; have n2_ : Aside0 (w1012.heap[gb202]? = some (.cells #[.int .i64 a0_0, .int .i64 a0_1, .slice A0_2 l0_2.length c0_2] 59 (0, 0))) := ⟨(by rw [hw]; exact (by (with_reducible repeat (first | refine blk_drewN ?_ _ | refine blk_drew ?_ | refine blk_alloc ?_ _)); refine blk_far ?_ NB202_216.out _; (with_reducible repeat (first | refine blk_drewN ?_ _ | refine blk_drew ?_ | refine blk_alloc ?_ _)); refine blk_far ?_ NB202_216.out _; (with_reducible repeat (first | refine blk_drewN ?_ _ | refine blk_drew ?_ | refine blk_alloc ?_ _)); refine blk_far ?_ NB202_216.out _; (with_reducible repeat (first | refine blk_drewN ?_ _ | refine blk_drew ?_ | refine blk_alloc ?_ _)); exact BK202.out))⟩; have n3_ : Aside0 (w1012.heap[gb216]? = some (.cells #[.int .i64 t209, .int .i64 t210, .slice Ao1011 t211.length co1011] 63 (0, 0))) := ⟨(by rw [hw]; exact (by (with_reducible repeat (first | refine blk_drewN ?_ _ | refine blk_drew ?_ | refine blk_alloc ?_ _)); refine blk_put (cs := #[.int .i64 t209, .int .i64 t210, .slice none 0 0]) ?_ 2 _ rfl; (with_reducible repeat (first | refine blk_drewN ?_ _ | refine blk_drew ?_ | refine blk_alloc ?_ _)); refine blk_put (cs := #[.int .i64 t209, .int .i64 0, .slice none 0 0]) ?_ 1 _ rfl; (with_reducible repeat (first | refine blk_drewN ?_ _ | refine blk_drew ?_ | refine blk_alloc ?_ _)); refine blk_put (cs := #[.int .i64 0, .int .i64 0, .slice none 0 0]) ?_ 0 _ rfl; (with_reducible repeat (first | refine blk_drewN ?_ _ | refine blk_drew ?_ | refine blk_alloc ?_ _)); exact BK216.out))⟩; have n4_ : Aside0 (Below w.heap.size w w1012) := ⟨(by rw [hw]; exact wB)⟩; clear hw; clear HO208; clear HO213; clear BK202; clear BK216; clear HB; have HO208 := n0_; have HO213 := n1_; have BK202 := n2_; have BK216 := n3_; have HB := n4_; clear n0_ n1_ n2_ n3_ n4_; obtain ⟨⟨hcz1013_0, hcz1013_1, hcz1013_2⟩, hfz1013_0, hfz1013_1, hfz1013_2⟩ := cells3 BK202.out) | ((with_reducible refine gate_callee (f := 38) rfl ?_); refine goesL_ (some 30) rfl rfl Try.func38 (by kernel_rfl) rfl #[.agg #[.int .i64 a0_0, .int .i64 a0_1, .slice A0_2 l0_2.length c0_2]] rfl wT ?_; (with_reducible refine (laws_toBoard.calls k a0_0 a0_1 _ _ l0_2 t217 t218 t219 _ ?side1 ?side2 A6.out).mono ?_); (case side1 => exact Kd.C_below HR0_2.out wB); (case side2 => exact HC0_2.out); rintro e w1014 ⟨v220, rfl, ho0, hb⟩; refine ⟨_, rfl, ?_⟩; have n0_ := Aside0.mk (Kd.R_elder' (Rh HO208) (Kd.R_base ho0) hb); have n1_ := Aside0.mk (Kd.R_elder' (Rh HO213) (Kd.R_base ho0) hb); have n2_ := Aside0.mk (Kd.R_lower (Kd.R_new' (Kd.R_new' ho0 (Kd.R_lt (Rh HO208))) (Kd.R_lt (Rh HO213))) (below_size wB)); have n3_ := Aside0.mk (blk_below (Bh BK202) hb); have n4_ := Aside0.mk (blk_below (Bh BK216) hb); have n5_ := Aside0.mk (below_step wB hb); clear HO208; clear HO213; clear BK202; clear BK216; clear HB; have HO208 := n0_; have HO213 := n1_; have HO221 := n2_; have BK202 := n3_; have BK216 := n4_; have HB := n5_; clear n0_ n1_ n2_ n3_ n4_ n5_; (try clear hb); (try clear hb2); (try clear hk); (try clear hi); (try clear ho0)) | ((with_reducible refine gate_dst (N := 7) rfl ?_); refine box_event ?hg (N := 7) ?hd (cs := #[.int .i64 0, .int .i64 0, .slice none 0 0]) (t := 63) ?hr ?_; (case hd => rfl); (case hg => rfl); (case hr => first | (go_simp; done) | (go_simp; rfl)); intro gb222 hg w1015 hbox hb; have n0_ := Aside0.mk (Kd.R_below (Rh HO208) hb); have n1_ := Aside0.mk (Kd.R_below (Rh HO213) hb); have n2_ := Aside0.mk (Kd.R_below (Rh HO221) hb); have n3_ := Aside0.mk (blk_below (Bh BK202) hb); have n4_ := Aside0.mk (blk_below (Bh BK216) hb); have n5_ := Aside0.mk (below_step wB hb); have n6_ := Aside0.mk (hbox); have n7_ := Aside0.mk ((by rw [hg]; exact (below_size wB) : w.heap.size ≤ gb222)); have n8_ := Aside0.mk ((by rw [hg]; exact (below_size wB) : w.heap.size ≤ gb222)); have n9_ := Aside0.mk ((by rw [hg]; exact Nat.ne_of_lt (blk_lt (Bh BK202)) : gb202 ≠ gb222)); have n10_ := Aside0.mk ((by rw [hg]; exact Nat.ne_of_gt (blk_lt (Bh BK202)) : gb222 ≠ gb202)); have n11_ := Aside0.mk ((by rw [hg]; exact Nat.ne_of_lt (blk_lt (Bh BK216)) : gb216 ≠ gb222)); have n12_ := Aside0.mk ((by rw [hg]; exact Nat.ne_of_gt (blk_lt (Bh BK216)) : gb222 ≠ gb216)); clear HO208; clear HO213; clear HO221; clear BK202; clear BK216; clear HB; have HO208 := n0_; have HO213 := n1_; have HO221 := n2_; have BK202 := n3_; have BK216 := n4_; have HB := n5_; have BK222 := n6_; have GW222 := n7_; have GE222 := n8_; have NB202_222 := n9_; have NB222_202 := n10_; have NB216_222 := n11_; have NB222_216 := n12_; clear n0_ n1_ n2_ n3_ n4_ n5_ n6_ n7_ n8_ n9_ n10_ n11_ n12_; clear hb hbox hg; have hnb1016 := NB222_202.out; have hnc1016 := NB202_222.out; have hnb1017 := NB222_216.out; have hnc1017 := NB216_222.out; obtain ⟨⟨hcz1018_0, hcz1018_1, hcz1018_2⟩, hfz1018_0, hfz1018_1, hfz1018_2⟩ := cells3 BK222.out; obtain ⟨Ao1019, co1019, eo1019⟩ := Kd.R_slice HO221.out; subst eo1019) | ((with_reducible refine gate_store (t := 63) (p := 7) rfl ?_); (try (rw [drewN_self w1015]; generalize hq_ : World.drewN w1015 _ = w1015; have n0_ := Aside0.mk (Kd.R_at hq_ HO208.out); have n1_ := Aside0.mk (Kd.R_at hq_ HO213.out); have n2_ := Aside0.mk (Kd.R_at hq_ HO221.out); have n3_ := Aside0.mk (blk_at hq_ BK202.out); have n4_ := Aside0.mk (blk_at hq_ BK216.out); have n5_ := Aside0.mk (blk_at hq_ BK222.out); have n6_ := Aside0.mk (below_at hq_ HB.out); clear hq_ HO208 HO213 HO221 BK202 BK216 BK222 HB; have HO208 := n0_; have HO213 := n1_; have HO221 := n2_; have BK202 := n3_; have BK216 := n4_; have BK222 := n5_; have HB := n6_; clear n0_ n1_ n2_ n3_ n4_ n5_ n6_; (try (obtain ⟨⟨hcyBK202_0, hcyBK202_1, hcyBK202_2⟩, hfyBK202_0, hfyBK202_1, hfyBK202_2⟩ := cells3 BK202.out)); (try (obtain ⟨⟨hcyBK216_0, hcyBK216_1, hcyBK216_2⟩, hfyBK216_0, hfyBK216_1, hfyBK216_2⟩ := cells3 BK216.out)); (try (obtain ⟨⟨hcyBK222_0, hcyBK222_1, hcyBK222_2⟩, hfyBK222_0, hfyBK222_1, hfyBK222_2⟩ := cells3 BK222.out)))); refine store_event (t := 63) (p := 7) (v := ?_) (w1 := (((w1015.setCell ⟨gb222, 0, none⟩ (.int .i64 t217)).setCell ⟨gb222, 1, none⟩ (.int .i64 t218)).setCell ⟨gb222, 2, none⟩ (.slice Ao1019 t219.length co1019))) ?hg ?ho ?hn ?hr ?_; (case ho => rfl); (case hg => rfl); (case hn => rfl); (case hr => first | (go_simp; done) | (go_simp; rfl)); intro w1020 hw; have n0_ : Aside0 (Kd.R k85 85 w1020 w.heap.size (fun k_ => some k_ ≠ (.slice Ao1011 t211.length co1011 : Value).ownBlock ∧ some k_ ≠ (.slice Ao1019 t219.length co1019 : Value).ownBlock) (.slice Ao1006 t206.length co1006) t206) := ⟨(by rw [hw]; exact (by (with_reducible repeat (first | apply Kd.R_alloc | apply Kd.R_drewN | apply Kd.R_drew)); exact Kd.R_mono (Kd.R_far (p := ⟨gb222, 2, none⟩) (Kd.R_far (p := ⟨gb222, 1, none⟩) (Kd.R_far (p := ⟨gb222, 0, none⟩) (Kd.R_types HO208.out BK222.out (by decide)) (fun _ hk => hk.2) (.int .i64 t217)) (fun _ hk => hk.2) (.int .i64 t218)) (fun _ hk => hk.2) (.slice Ao1019 t219.length co1019)) (fun _ hk => ⟨hk.1.1, hk.1.2⟩)))⟩; have n1_ : Aside0 (Kd.R k85 85 w1020 w.heap.size (fun k_ => some k_ ≠ (.slice Ao1006 t206.length co1006 : Value).ownBlock ∧ some k_ ≠ (.slice Ao1019 t219.length co1019 : Value).ownBlock) (.slice Ao1011 t211.length co1011) t211) := ⟨(by rw [hw]; exact (by (with_reducible repeat (first | apply Kd.R_alloc | apply Kd.R_drewN | apply Kd.R_drew)); exact Kd.R_mono (Kd.R_far (p := ⟨gb222, 2, none⟩) (Kd.R_far (p := ⟨gb222, 1, none⟩) (Kd.R_far (p := ⟨gb222, 0, none⟩) (Kd.R_types HO213.out BK222.out (by decide)) (fun _ hk => hk.2) (.int .i64 t217)) (fun _ hk => hk.2) (.int .i64 t218)) (fun _ hk => hk.2) (.slice Ao1019 t219.length co1019)) (fun _ hk => ⟨hk.1.1, hk.1.2⟩)))⟩; have n2_ : Aside0 (Kd.R k85 85 w1020 w.heap.size (fun k_ => some k_ ≠ (.slice Ao1006 t206.length co1006 : Value).ownBlock ∧ some k_ ≠ (.slice Ao1011 t211.length co1011 : Value).ownBlock) (.slice Ao1019 t219.length co1019) t219) := ⟨(by rw [hw]; exact (by (with_reducible repeat (first | apply Kd.R_alloc | apply Kd.R_drewN | apply Kd.R_drew)); exact Kd.R_mono (Kd.R_far (p := ⟨gb222, 2, none⟩) (Kd.R_far (p := ⟨gb222, 1, none⟩) (Kd.R_far (p := ⟨gb222, 0, none⟩) (Kd.R_types HO221.out BK222.out (by decide)) (fun _ hk => hk.2) (.int .i64 t217)) (fun _ hk => hk.2) (.int .i64 t218)) (fun _ hk => hk.2) (.slice Ao1019 t219.length co1019)) (fun _ hk => ⟨hk.1.1.2, hk.1.2⟩)))⟩; have n3_ : Aside0 (w1020.heap[gb202]? = some (.cells #[.int .i64 a0_0, .int .i64 a0_1, .slice A0_2 l0_2.length c0_2] 59 (0, 0))) := ⟨(by rw [hw]; exact (by (with_reducible repeat (first | refine blk_drewN ?_ _ | refine blk_drew ?_ | refine blk_alloc ?_ _)); refine blk_far ?_ NB202_222.out _; (with_reducible repeat (first | refine blk_drewN ?_ _ | refine blk_drew ?_ | refine blk_alloc ?_ _)); refine blk_far ?_ NB202_222.out _; (with_reducible repeat (first | refine blk_drewN ?_ _ | refine blk_drew ?_ | refine blk_alloc ?_ _)); refine blk_far ?_ NB202_222.out _; (with_reducible repeat (first | refine blk_drewN ?_ _ | refine blk_drew ?_ | refine blk_alloc ?_ _)); exact BK202.out))⟩; have n4_ : Aside0 (w1020.heap[gb216]? = some (.cells #[.int .i64 t209, .int .i64 t210, .slice Ao1011 t211.length co1011] 63 (0, 0))) := ⟨(by rw [hw]; exact (by (with_reducible repeat (first | refine blk_drewN ?_ _ | refine blk_drew ?_ | refine blk_alloc ?_ _)); refine blk_far ?_ NB216_222.out _; (with_reducible repeat (first | refine blk_drewN ?_ _ | refine blk_drew ?_ | refine blk_alloc ?_ _)); refine blk_far ?_ NB216_222.out _; (with_reducible repeat (first | refine blk_drewN ?_ _ | refine blk_drew ?_ | refine blk_alloc ?_ _)); refine blk_far ?_ NB216_222.out _; (with_reducible repeat (first | refine blk_drewN ?_ _ | refine blk_drew ?_ | refine blk_alloc ?_ _)); exact BK216.out))⟩; have n5_ : Aside0 (w1020.heap[gb222]? = some (.cells #[.int .i64 t217, .int .i64 t218, .slice Ao1019 t219.length co1019] 63 (0, 0))) := ⟨(by rw [hw]; exact (by (with_reducible repeat (first | refine blk_drewN ?_ _ | refine blk_drew ?_ | refine blk_alloc ?_ _)); refine blk_put (cs := #[.int .i64 t217, .int .i64 t218, .slice none 0 0]) ?_ 2 _ rfl; (with_reducible repeat (first | refine blk_drewN ?_ _ | refine blk_drew ?_ | refine blk_alloc ?_ _)); refine blk_put (cs := #[.int .i64 t217, .int .i64 0, .slice none 0 0]) ?_ 1 _ rfl; (with_reducible repeat (first | refine blk_drewN ?_ _ | refine blk_drew ?_ | refine blk_alloc ?_ _)); refine blk_put (cs := #[.int .i64 0, .int .i64 0, .slice none 0 0]) ?_ 0 _ rfl; (with_reducible repeat (first | refine blk_drewN ?_ _ | refine blk_drew ?_ | refine blk_alloc ?_ _)); exact BK222.out))⟩; have n6_ : Aside0 (Below w.heap.size w w1020) := ⟨(by rw [hw]; exact wB)⟩; clear hw; clear HO208; clear HO213; clear HO221; clear BK202; clear BK216; clear BK222; clear HB; have HO208 := n0_; have HO213 := n1_; have HO221 := n2_; have BK202 := n3_; have BK216 := n4_; have BK222 := n5_; have HB := n6_; clear n0_ n1_ n2_ n3_ n4_ n5_ n6_; obtain ⟨⟨hcz1021_0, hcz1021_1, hcz1021_2⟩, hfz1021_0, hfz1021_1, hfz1021_2⟩ := cells3 BK222.out) | ((with_reducible refine gate_callee (f := 48) rfl ?_); refine goesL_ (some 33) rfl rfl Try.func48 (by kernel_rfl) rfl #[.agg #[.int .i64 t217, .int .i64 t218, .slice Ao1019 t219.length co1019]] rfl wT ?_; (with_reducible refine (impl_BoardLose.calls k t217 t218 _ _ t219 t223 t224 t225 t228 t229 _ ?side1 ?side2 A7.out).mono ?_); (case side1 => exact Ch HO221); (case side2 => exact (Kd.R_reads' HO221.out).2.1); rintro e w1022 ⟨v226, rfl, ho0, hb⟩; refine ⟨_, rfl, ?_⟩; have n0_ := Aside0.mk (Kd.R_elder' (Rh HO208) (Kd.R_base ho0) hb); have n1_ := Aside0.mk (Kd.R_elder' (Rh HO213) (Kd.R_base ho0) hb); have n2_ := Aside0.mk (Kd.R_elder' (Rh HO221) (Kd.R_base ho0) hb); have n3_ := Aside0.mk (Kd.R_lower (Kd.R_new' (Kd.R_new' (Kd.R_new' ho0 (Kd.R_lt (Rh HO208))) (Kd.R_lt (Rh HO213))) (Kd.R_lt (Rh HO221))) (below_size wB)); have n4_ := Aside0.mk (blk_below (Bh BK202) hb); have n5_ := Aside0.mk (blk_below (Bh BK216) hb); have n6_ := Aside0.mk (blk_below (Bh BK222) hb); have n7_ := Aside0.mk (below_step wB hb); clear HO208; clear HO213; clear HO221; clear BK202; clear BK216; clear BK222; clear HB; have HO208 := n0_; have HO213 := n1_; have HO221 := n2_; have HO227 := n3_; have BK202 := n4_; have BK216 := n5_; have BK222 := n6_; have HB := n7_; clear n0_ n1_ n2_ n3_ n4_ n5_ n6_ n7_; (try clear hb); (try clear hb2); (try clear hk); (try clear hi); (try clear ho0)) | ((with_reducible refine gate_dst (N := 8) rfl ?_); refine box_event ?hg (N := 8) ?hd (cs := #[.int .i64 0, .int .i64 0, .slice none 0 0]) (t := 63) ?hr ?_; (case hd => rfl); (case hg => rfl); (case hr => first | (go_simp; done) | (go_simp; rfl)); intro gb230 hg w1023 hbox hb; have n0_ := Aside0.mk (Kd.R_below (Rh HO208) hb); have n1_ := Aside0.mk (Kd.R_below (Rh HO213) hb); have n2_ := Aside0.mk (Kd.R_below (Rh HO221) hb); have n3_ := Aside0.mk (Kd.R_below (Rh HO227) hb); have n4_ := Aside0.mk (blk_below (Bh BK202) hb); have n5_ := Aside0.mk (blk_below (Bh BK216) hb); have n6_ := Aside0.mk (blk_below (Bh BK222) hb); have n7_ := Aside0.mk (below_step wB hb); have n8_ := Aside0.mk (hbox); have n9_ := Aside0.mk ((by rw [hg]; exact (below_size wB) : w.heap.size ≤ gb230)); have n10_ := Aside0.mk ((by rw [hg]; exact (below_size wB) : w.heap.size ≤ gb230)); have n11_ := Aside0.mk ((by rw [hg]; exact Nat.ne_of_lt (blk_lt (Bh BK202)) : gb202 ≠ gb230)); have n12_ := Aside0.mk ((by rw [hg]; exact Nat.ne_of_gt (blk_lt (Bh BK202)) : gb230 ≠ gb202)); have n13_ := Aside0.mk ((by rw [hg]; exact Nat.ne_of_lt (blk_lt (Bh BK216)) : gb216 ≠ gb230)); have n14_ := Aside0.mk ((by rw [hg]; exact Nat.ne_of_gt (blk_lt (Bh BK216)) : gb230 ≠ gb216)); have n15_ := Aside0.mk ((by rw [hg]; exact Nat.ne_of_lt (blk_lt (Bh BK222)) : gb222 ≠ gb230)); have n16_ := Aside0.mk ((by rw [hg]; exact Nat.ne_of_gt (blk_lt (Bh BK222)) : gb230 ≠ gb222)); clear HO208; clear HO213; clear HO221; clear HO227; clear BK202; clear BK216; clear BK222; clear HB; have HO208 := n0_; have HO213 := n1_; have HO221 := n2_; have HO227 := n3_; have BK202 := n4_; have BK216 := n5_; have BK222 := n6_; have HB := n7_; have BK230 := n8_; have GW230 := n9_; have GE230 := n10_; have NB202_230 := n11_; have NB230_202 := n12_; have NB216_230 := n13_; have NB230_216 := n14_; have NB222_230 := n15_; have NB230_222 := n16_; clear n0_ n1_ n2_ n3_ n4_ n5_ n6_ n7_ n8_ n9_ n10_ n11_ n12_ n13_ n14_ n15_ n16_; clear hb hbox hg; have hnb1024 := NB230_202.out; have hnc1024 := NB202_230.out; have hnb1025 := NB230_216.out; have hnc1025 := NB216_230.out; have hnb1026 := NB230_222.out; have hnc1026 := NB222_230.out; obtain ⟨⟨hcz1027_0, hcz1027_1, hcz1027_2⟩, hfz1027_0, hfz1027_1, hfz1027_2⟩ := cells3 BK230.out; obtain ⟨Ao1028, co1028, eo1028⟩ := Kd.R_slice HO227.out; subst eo1028) | ((with_reducible refine gate_store (t := 63) (p := 8) rfl ?_); (try (rw [drewN_self w1023]; generalize hq_ : World.drewN w1023 _ = w1023; have n0_ := Aside0.mk (Kd.R_at hq_ HO208.out); have n1_ := Aside0.mk (Kd.R_at hq_ HO213.out); have n2_ := Aside0.mk (Kd.R_at hq_ HO221.out); have n3_ := Aside0.mk (Kd.R_at hq_ HO227.out); have n4_ := Aside0.mk (blk_at hq_ BK202.out); have n5_ := Aside0.mk (blk_at hq_ BK216.out); have n6_ := Aside0.mk (blk_at hq_ BK222.out); have n7_ := Aside0.mk (blk_at hq_ BK230.out); have n8_ := Aside0.mk (below_at hq_ HB.out); clear hq_ HO208 HO213 HO221 HO227 BK202 BK216 BK222 BK230 HB; have HO208 := n0_; have HO213 := n1_; have HO221 := n2_; have HO227 := n3_; have BK202 := n4_; have BK216 := n5_; have BK222 := n6_; have BK230 := n7_; have HB := n8_; clear n0_ n1_ n2_ n3_ n4_ n5_ n6_ n7_ n8_; (try (obtain ⟨⟨hcyBK202_0, hcyBK202_1, hcyBK202_2⟩, hfyBK202_0, hfyBK202_1, hfyBK202_2⟩ := cells3 BK202.out)); (try (obtain ⟨⟨hcyBK216_0, hcyBK216_1, hcyBK216_2⟩, hfyBK216_0, hfyBK216_1, hfyBK216_2⟩ := cells3 BK216.out)); (try (obtain ⟨⟨hcyBK222_0, hcyBK222_1, hcyBK222_2⟩, hfyBK222_0, hfyBK222_1, hfyBK222_2⟩ := cells3 BK222.out)); (try (obtain ⟨⟨hcyBK230_0, hcyBK230_1, hcyBK230_2⟩, hfyBK230_0, hfyBK230_1, hfyBK230_2⟩ := cells3 BK230.out)))); refine store_event (t := 63) (p := 8) (v := ?_) (w1 := (((w1023.setCell ⟨gb230, 0, none⟩ (.int .i64 t223)).setCell ⟨gb230, 1, none⟩ (.int .i64 t224)).setCell ⟨gb230, 2, none⟩ (.slice Ao1028 t225.length co1028))) ?hg ?ho ?hn ?hr ?_; (case ho => rfl); (case hg => rfl); (case hn => rfl); (case hr => first | (go_simp; done) | (go_simp; rfl)); intro w1029 hw; have n0_ : Aside0 (Kd.R k85 85 w1029 w.heap.size (fun k_ => some k_ ≠ (.slice Ao1011 t211.length co1011 : Value).ownBlock ∧ some k_ ≠ (.slice Ao1019 t219.length co1019 : Value).ownBlock ∧ some k_ ≠ (.slice Ao1028 t225.length co1028 : Value).ownBlock) (.slice Ao1006 t206.length co1006) t206) := ⟨(by rw [hw]; exact (by (with_reducible repeat (first | apply Kd.R_alloc | apply Kd.R_drewN | apply Kd.R_drew)); exact Kd.R_mono (Kd.R_far (p := ⟨gb230, 2, none⟩) (Kd.R_far (p := ⟨gb230, 1, none⟩) (Kd.R_far (p := ⟨gb230, 0, none⟩) (Kd.R_types HO208.out BK230.out (by decide)) (fun _ hk => hk.2) (.int .i64 t223)) (fun _ hk => hk.2) (.int .i64 t224)) (fun _ hk => hk.2) (.slice Ao1028 t225.length co1028)) (fun _ hk => ⟨hk.1.1.1, ⟨hk.1.1.2, hk.1.2⟩⟩)))⟩; have n1_ : Aside0 (Kd.R k85 85 w1029 w.heap.size (fun k_ => some k_ ≠ (.slice Ao1006 t206.length co1006 : Value).ownBlock ∧ some k_ ≠ (.slice Ao1019 t219.length co1019 : Value).ownBlock ∧ some k_ ≠ (.slice Ao1028 t225.length co1028 : Value).ownBlock) (.slice Ao1011 t211.length co1011) t211) := ⟨(by rw [hw]; exact (by (with_reducible repeat (first | apply Kd.R_alloc | apply Kd.R_drewN | apply Kd.R_drew)); exact Kd.R_mono (Kd.R_far (p := ⟨gb230, 2, none⟩) (Kd.R_far (p := ⟨gb230, 1, none⟩) (Kd.R_far (p := ⟨gb230, 0, none⟩) (Kd.R_types HO213.out BK230.out (by decide)) (fun _ hk => hk.2) (.int .i64 t223)) (fun _ hk => hk.2) (.int .i64 t224)) (fun _ hk => hk.2) (.slice Ao1028 t225.length co1028)) (fun _ hk => ⟨hk.1.1.1, ⟨hk.1.1.2, hk.1.2⟩⟩)))⟩; have n2_ : Aside0 (Kd.R k85 85 w1029 w.heap.size (fun k_ => some k_ ≠ (.slice Ao1006 t206.length co1006 : Value).ownBlock ∧ some k_ ≠ (.slice Ao1011 t211.length co1011 : Value).ownBlock ∧ some k_ ≠ (.slice Ao1028 t225.length co1028 : Value).ownBlock) (.slice Ao1019 t219.length co1019) t219) := ⟨(by rw [hw]; exact (by (with_reducible repeat (first | apply Kd.R_alloc | apply Kd.R_drewN | apply Kd.R_drew)); exact Kd.R_mono (Kd.R_far (p := ⟨gb230, 2, none⟩) (Kd.R_far (p := ⟨gb230, 1, none⟩) (Kd.R_far (p := ⟨gb230, 0, none⟩) (Kd.R_types HO221.out BK230.out (by decide)) (fun _ hk => hk.2) (.int .i64 t223)) (fun _ hk => hk.2) (.int .i64 t224)) (fun _ hk => hk.2) (.slice Ao1028 t225.length co1028)) (fun _ hk => ⟨hk.1.1.1, ⟨hk.1.1.2, hk.1.2⟩⟩)))⟩; have n3_ : Aside0 (Kd.R k85 85 w1029 w.heap.size (fun k_ => some k_ ≠ (.slice Ao1006 t206.length co1006 : Value).ownBlock ∧ some k_ ≠ (.slice Ao1011 t211.length co1011 : Value).ownBlock ∧ some k_ ≠ (.slice Ao1019 t219.length co1019 : Value).ownBlock) (.slice Ao1028 t225.length co1028) t225) := ⟨(by rw [hw]; exact (by (with_reducible repeat (first | apply Kd.R_alloc | apply Kd.R_drewN | apply Kd.R_drew)); exact Kd.R_mono (Kd.R_far (p := ⟨gb230, 2, none⟩) (Kd.R_far (p := ⟨gb230, 1, none⟩) (Kd.R_far (p := ⟨gb230, 0, none⟩) (Kd.R_types HO227.out BK230.out (by decide)) (fun _ hk => hk.2) (.int .i64 t223)) (fun _ hk => hk.2) (.int .i64 t224)) (fun _ hk => hk.2) (.slice Ao1028 t225.length co1028)) (fun _ hk => ⟨hk.1.1.1.2, ⟨hk.1.1.2, hk.1.2⟩⟩)))⟩; have n4_ : Aside0 (w1029.heap[gb202]? = some (.cells #[.int .i64 a0_0, .int .i64 a0_1, .slice A0_2 l0_2.length c0_2] 59 (0, 0))) := ⟨(by rw [hw]; exact (by (with_reducible repeat (first | refine blk_drewN ?_ _ | refine blk_drew ?_ | refine blk_alloc ?_ _)); refine blk_far ?_ NB202_230.out _; (with_reducible repeat (first | refine blk_drewN ?_ _ | refine blk_drew ?_ | refine blk_alloc ?_ _)); refine blk_far ?_ NB202_230.out _; (with_reducible repeat (first | refine blk_drewN ?_ _ | refine blk_drew ?_ | refine blk_alloc ?_ _)); refine blk_far ?_ NB202_230.out _; (with_reducible repeat (first | refine blk_drewN ?_ _ | refine blk_drew ?_ | refine blk_alloc ?_ _)); exact BK202.out))⟩; have n5_ : Aside0 (w1029.heap[gb216]? = some (.cells #[.int .i64 t209, .int .i64 t210, .slice Ao1011 t211.length co1011] 63 (0, 0))) := ⟨(by rw [hw]; exact (by (with_reducible repeat (first | refine blk_drewN ?_ _ | refine blk_drew ?_ | refine blk_alloc ?_ _)); refine blk_far ?_ NB216_230.out _; (with_reducible repeat (first | refine blk_drewN ?_ _ | refine blk_drew ?_ | refine blk_alloc ?_ _)); refine blk_far ?_ NB216_230.out _; (with_reducible repeat (first | refine blk_drewN ?_ _ | refine blk_drew ?_ | refine blk_alloc ?_ _)); refine blk_far ?_ NB216_230.out _; (with_reducible repeat (first | refine blk_drewN ?_ _ | refine blk_drew ?_ | refine blk_alloc ?_ _)); exact BK216.out))⟩; have n6_ : Aside0 (w1029.heap[gb222]? = some (.cells #[.int .i64 t217, .int .i64 t218, .slice Ao1019 t219.length co1019] 63 (0, 0))) := ⟨(by rw [hw]; exact (by (with_reducible repeat (first | refine blk_drewN ?_ _ | refine blk_drew ?_ | refine blk_alloc ?_ _)); refine blk_far ?_ NB222_230.out _; (with_reducible repeat (first | refine blk_drewN ?_ _ | refine blk_drew ?_ | refine blk_alloc ?_ _)); refine blk_far ?_ NB222_230.out _; (with_reducible repeat (first | refine blk_drewN ?_ _ | refine blk_drew ?_ | refine blk_alloc ?_ _)); refine blk_far ?_ NB222_230.out _; (with_reducible repeat (first | refine blk_drewN ?_ _ | refine blk_drew ?_ | refine blk_alloc ?_ _)); exact BK222.out))⟩; have n7_ : Aside0 (w1029.heap[gb230]? = some (.cells #[.int .i64 t223, .int .i64 t224, .slice Ao1028 t225.length co1028] 63 (0, 0))) := ⟨(by rw [hw]; exact (by (with_reducible repeat (first | refine blk_drewN ?_ _ | refine blk_drew ?_ | refine blk_alloc ?_ _)); refine blk_put (cs := #[.int .i64 t223, .int .i64 t224, .slice none 0 0]) ?_ 2 _ rfl; (with_reducible repeat (first | refine blk_drewN ?_ _ | refine blk_drew ?_ | refine blk_alloc ?_ _)); refine blk_put (cs := #[.int .i64 t223, .int .i64 0, .slice none 0 0]) ?_ 1 _ rfl; (with_reducible repeat (first | refine blk_drewN ?_ _ | refine blk_drew ?_ | refine blk_alloc ?_ _)); refine blk_put (cs := #[.int .i64 0, .int .i64 0, .slice none 0 0]) ?_ 0 _ rfl; (with_reducible repeat (first | refine blk_drewN ?_ _ | refine blk_drew ?_ | refine blk_alloc ?_ _)); exact BK230.out))⟩; have n8_ : Aside0 (Below w.heap.size w w1029) := ⟨(by rw [hw]; exact wB)⟩; clear hw; clear HO208; clear HO213; clear HO221; clear HO227; clear BK202; clear BK216; clear BK222; clear BK230; clear HB; have HO208 := n0_; have HO213 := n1_; have HO221 := n2_; have HO227 := n3_; have BK202 := n4_; have BK216 := n5_; have BK222 := n6_; have BK230 := n7_; have HB := n8_; clear n0_ n1_ n2_ n3_ n4_ n5_ n6_ n7_ n8_))
 (try simp only [Act.put, List.setIfInBounds_toArray, List.set_cons_zero, List.set_cons_succ])
 go_cut [50] (fun v50 wc => ∃ (kq : Nat) (x50_7 : Bool), v50 = .bool x50_7 ∧ Aside0 (laws_FnExactBoardLose.j0 kq t214 t215 t228 t229 x50_7 a0_0 a0_1 l0_2 t209 t210 t211 t217 t218 t219 t223 t224 t225 = some r) ∧ Aside0 (kq ≤ k) ∧ Aside0 (Kd.R k85 85 wc w.heap.size (fun k_ => some k_ ≠ ((.slice Ao1019 t219.length co1019) : Value).ownBlock ∧ some k_ ≠ ((.slice Ao1028 t225.length co1028) : Value).ownBlock) (.slice Ao1011 t211.length co1011) t211) ∧ Aside0 (Kd.R k85 85 wc w.heap.size (fun k_ => some k_ ≠ ((.slice Ao1011 t211.length co1011) : Value).ownBlock ∧ some k_ ≠ ((.slice Ao1028 t225.length co1028) : Value).ownBlock) (.slice Ao1019 t219.length co1019) t219) ∧ Aside0 (Kd.R k85 85 wc w.heap.size (fun k_ => some k_ ≠ ((.slice Ao1011 t211.length co1011) : Value).ownBlock ∧ some k_ ≠ ((.slice Ao1019 t219.length co1019) : Value).ownBlock) (.slice Ao1028 t225.length co1028) t225) ∧ Aside0 (wc.heap[gb202]? = some (.cells #[.int .i64 a0_0, .int .i64 a0_1, (.slice A0_2 l0_2.length c0_2)] 59 (0, 0))) ∧ Aside0 (wc.heap[gb216]? = some (.cells #[.int .i64 t209, .int .i64 t210, (.slice Ao1011 t211.length co1011)] 63 (0, 0))) ∧ Aside0 (wc.heap[gb222]? = some (.cells #[.int .i64 t217, .int .i64 t218, (.slice Ao1019 t219.length co1019)] 63 (0, 0))) ∧ Aside0 (wc.heap[gb230]? = some (.cells #[.int .i64 t223, .int .i64 t224, (.slice Ao1028 t225.length co1028)] 63 (0, 0))) ∧ Aside0 (Below w.heap.size w wc))
 case first => (
 have H := HC8.out
 clear HC8
 replace H := Option.bind_eq_some_iff.mp H
 obtain ⟨t231, A10300, H⟩ := H
 replace H : (if t231 = true then (if t228 = t214 then (laws_FnExactBoardLose.j0 k t214 t215 t228 t229 (t229 != t215) a0_0 a0_1 l0_2 t209 t210 t211 t217 t218 t219 t223 t224 t225) else (laws_FnExactBoardLose.j0 k t214 t215 t228 t229 true a0_0 a0_1 l0_2 t209 t210 t211 t217 t218 t219 t223 t224 t225)) else (laws_FnExactBoardLose.j0 k t214 t215 t228 t229 true a0_0 a0_1 l0_2 t209 t210 t211 t217 t218 t219 t223 t224 t225)) = some r := H
 have A1030 := Aside0.mk A10300
 clear A10300
 by_cases c1031 : t231 = true
 subst c1031
 have H1 : (if t228 = t214 then (laws_FnExactBoardLose.j0 k t214 t215 t228 t229 (t229 != t215) a0_0 a0_1 l0_2 t209 t210 t211 t217 t218 t219 t223 t224 t225) else (laws_FnExactBoardLose.j0 k t214 t215 t228 t229 true a0_0 a0_1 l0_2 t209 t210 t211 t217 t218 t219 t223 t224 t225)) = some r := by rw [if_pos rfl] at H; exact H
 clear H
 have H := H1
 clear H1
 by_cases c1032 : t228 = t214
 rw [if_pos c1032] at H
 have c1032b0 : (t228 == t214) = true := beq_iff_eq.mpr c1032
 have c1032b1 : (t228 != t214) = false := bne_eq_false_iff_eq.mpr c1032
 clear c1032
 (first | rw [c1032b0] | (simp only [i64_w, i32_w]; rw [c1032b0]) | skip)
 have H' := Aside0.mk H
 clear H
 rotate_left
 rw [if_neg c1032] at H
 have c1032b0 : (t228 == t214) = false := beq_eq_false_iff_ne.mpr c1032
 have c1032b1 : (t228 != t214) = true := bne_iff_ne.mpr c1032
 (first | rw [c1032b0] | (simp only [i64_w, i32_w]; rw [c1032b0]) | skip)
 have H' := Aside0.mk H
 clear H
 rotate_left
 replace c1031 := Bool.eq_false_iff.mpr c1031
 subst c1031
 have H1 : (laws_FnExactBoardLose.j0 k t214 t215 t228 t229 true a0_0 a0_1 l0_2 t209 t210 t211 t217 t218 t219 t223 t224 t225) = some r := by rw [if_neg (show ¬ (false = true) by decide)] at H; exact H
 clear H
 have H := H1
 clear H1
 have H' := Aside0.mk H
 clear H
 rotate_left
 all_goals (
 have hnb2001 := NB230_202.out
 have hnc2001 := NB202_230.out
 have hnb2002 := NB230_216.out
 have hnc2002 := NB216_230.out
 have hnb2003 := NB230_222.out
 have hnc2003 := NB222_230.out
 obtain ⟨⟨hcz2004_0, hcz2004_1, hcz2004_2⟩, hfz2004_0, hfz2004_1, hfz2004_2⟩ := cells3 BK230.out
 have hnb2005 := NB216_202.out
 have hnc2005 := NB202_216.out
 have hnb2006 := NB216_222.out
 have hnc2006 := NB222_216.out
 obtain ⟨⟨hcz2007_0, hcz2007_1, hcz2007_2⟩, hfz2007_0, hfz2007_1, hfz2007_2⟩ := cells3 BK216.out
 go_wp2_with (first | ((with_reducible refine gate_callee (f := 40) rfl ?_); refine goesL_ (some 39) rfl rfl Try.func40 (by kernel_rfl) rfl #[.agg #[.int .i64 t223, .int .i64 t224, .slice Ao1028 t225.length co1028], .agg #[.int .i64 t209, .int .i64 t210, .slice Ao1011 t211.length co1011]] rfl wT ?_; (with_reducible refine (laws_eqBoard.calls k t223 t224 _ _ t225 t209 t210 _ _ t211 _ _ ?side1 ?side2 ?side3 ?side4 A1030.out).mono ?_); (case side1 => exact Ch HO227); (case side2 => exact (Kd.R_reads' HO227.out).2.1); (case side3 => exact Ch HO213); (case side4 => exact (Kd.R_reads' HO213.out).2.1); rintro e w2008 ⟨rfl, hb⟩; refine ⟨_, rfl, ?_⟩; have n0_ := Aside0.mk (Kd.R_below (Rh HO208) hb); have n1_ := Aside0.mk (Kd.R_below (Rh HO213) hb); have n2_ := Aside0.mk (Kd.R_below (Rh HO221) hb); have n3_ := Aside0.mk (Kd.R_below (Rh HO227) hb); have n4_ := Aside0.mk (blk_below (Bh BK202) hb); have n5_ := Aside0.mk (blk_below (Bh BK216) hb); have n6_ := Aside0.mk (blk_below (Bh BK222) hb); have n7_ := Aside0.mk (blk_below (Bh BK230) hb); have n8_ := Aside0.mk (below_step wB hb); clear HO208; clear HO213; clear HO221; clear HO227; clear BK202; clear BK216; clear BK222; clear BK230; clear HB; have HO208 := n0_; have HO213 := n1_; have HO221 := n2_; have HO227 := n3_; have BK202 := n4_; have BK216 := n5_; have BK222 := n6_; have BK230 := n7_; have HB := n8_; clear n0_ n1_ n2_ n3_ n4_ n5_ n6_ n7_ n8_; (try clear hb); (try clear hb2); (try clear hk); (try clear hi)))
 go_meet
 )
 {
 case rel => exact ⟨_, ((t229 != t215)), (by first | rfl | (simp; done) | (simp [*]; done)), H', ⟨by first | omega | exact Nat.le_refl _⟩, ⟨Kd.R_mono (Rh HO213) (fun _ hk => ⟨hk.2.1, hk.2.2⟩)⟩, ⟨Kd.R_mono (Rh HO221) (fun _ hk => ⟨hk.2.1, hk.2.2⟩)⟩, ⟨Kd.R_mono (Rh HO227) (fun _ hk => ⟨hk.2.1, hk.2.2⟩)⟩, ⟨Bh BK202⟩, ⟨Bh BK216⟩, ⟨Bh BK222⟩, ⟨Bh BK230⟩, ⟨wB⟩⟩
 }
 all_goals (
 case rel => exact ⟨_, (true), (by first | rfl | (simp; done) | (simp [*]; done)), H', ⟨by first | omega | exact Nat.le_refl _⟩, ⟨Kd.R_mono (Rh HO213) (fun _ hk => ⟨hk.2.1, hk.2.2⟩)⟩, ⟨Kd.R_mono (Rh HO221) (fun _ hk => ⟨hk.2.1, hk.2.2⟩)⟩, ⟨Kd.R_mono (Rh HO227) (fun _ hk => ⟨hk.2.1, hk.2.2⟩)⟩, ⟨Bh BK202⟩, ⟨Bh BK216⟩, ⟨Bh BK222⟩, ⟨Bh BK230⟩, ⟨wB⟩⟩
 )
 )
 case rest => (
 clear HC8
 try clear c0
 try clear c3
 try clear c3b0
 try clear c1031
 try clear c1032
 try clear c1032b0
 try clear c1032b1
 try clear hcz1002_0 hcz1002_1 hcz1002_2 hfz1002_0 hfz1002_1 hfz1002_2
 try clear hcz1004_0 hcz1004_1 hcz1004_2 hfz1004_0 hfz1004_1 hfz1004_2
 try clear hcz1010_0 hcz1010_1 hcz1010_2 hfz1010_0 hfz1010_1 hfz1010_2
 try clear hcz1013_0 hcz1013_1 hcz1013_2 hfz1013_0 hfz1013_1 hfz1013_2
 try clear hcz1018_0 hcz1018_1 hcz1018_2 hfz1018_0 hfz1018_1 hfz1018_2
 try clear hcz1021_0 hcz1021_1 hcz1021_2 hfz1021_0 hfz1021_1 hfz1021_2
 try clear hcz1027_0 hcz1027_1 hcz1027_2 hfz1027_0 hfz1027_1 hfz1027_2
 try clear hcz2004_0 hcz2004_1 hcz2004_2 hfz2004_0 hfz2004_1 hfz2004_2
 try clear hcz2007_0 hcz2007_1 hcz2007_2 hfz2007_0 hfz2007_1 hfz2007_2
 obtain ⟨kq, x50_7, rfl, HA, HJ7, HO_217002, HO_223002, HO_231002, BK202, BK216, BK222, BK230, HB⟩ := hcut
 cases kq with
 | zero => exact absurd HA.out (by simp [laws_FnExactBoardLose.j0])
 | succ kj7 => {
 have H := HA.out
 clear HA
 simp only [laws_FnExactBoardLose.j0] at H
 by_cases c1033 : x50_7 = true
 subst c1033
 have H1 : (some false) = some r := by rw [if_pos rfl] at H; exact H
 clear H
 have H := H1
 clear H1
 obtain rfl := Option.some.inj H
 rotate_left
 replace c1033 := Bool.eq_false_iff.mpr c1033
 subst c1033
 have H1 : ((laws_toBoard.f kj7 a0_0 a0_1 l0_2).bind fun bt232 => ((laws_eqBoard.f kj7 t217 t218 t219 bt232.1 bt232.2.1 bt232.2.2).bind fun t237 => (if t237 = true then ((laws_markBoard.f kj7 t217 t218 t219 1).bind fun bt238 => (if bt238.1 < 0 then (laws_FnExactBoardLose.j1 kj7 t214 t215 true a0_0 a0_1 l0_2 t209 t210 t211 t223 t224 t225) else ((laws_eqBoard.f kj7 t223 t224 t225 t209 t210 t211).bind fun t240 => (if t240 = true then (if t228 = t214 then (laws_FnExactBoardLose.j1 kj7 t214 t215 (t229 != t215) a0_0 a0_1 l0_2 t209 t210 t211 t223 t224 t225) else (laws_FnExactBoardLose.j1 kj7 t214 t215 true a0_0 a0_1 l0_2 t209 t210 t211 t223 t224 t225)) else (laws_FnExactBoardLose.j1 kj7 t214 t215 true a0_0 a0_1 l0_2 t209 t210 t211 t223 t224 t225))))) else (some false)))) = some r := by rw [if_neg (show ¬ (false = true) by decide)] at H; exact H
 clear H
 have H := H1
 clear H1
 replace H := Option.bind_eq_some_iff.mp H
 obtain ⟨⟨t232, t233, t234⟩, A10340, H⟩ := H
 replace H : ((laws_eqBoard.f kj7 t217 t218 t219 t232 t233 t234).bind fun t237 => (if t237 = true then ((laws_markBoard.f kj7 t217 t218 t219 1).bind fun bt238 => (if bt238.1 < 0 then (laws_FnExactBoardLose.j1 kj7 t214 t215 true a0_0 a0_1 l0_2 t209 t210 t211 t223 t224 t225) else ((laws_eqBoard.f kj7 t223 t224 t225 t209 t210 t211).bind fun t240 => (if t240 = true then (if t228 = t214 then (laws_FnExactBoardLose.j1 kj7 t214 t215 (t229 != t215) a0_0 a0_1 l0_2 t209 t210 t211 t223 t224 t225) else (laws_FnExactBoardLose.j1 kj7 t214 t215 true a0_0 a0_1 l0_2 t209 t210 t211 t223 t224 t225)) else (laws_FnExactBoardLose.j1 kj7 t214 t215 true a0_0 a0_1 l0_2 t209 t210 t211 t223 t224 t225))))) else (some false))) = some r := H
 have A1034 := Aside0.mk A10340
 clear A10340
 replace H := Option.bind_eq_some_iff.mp H
 obtain ⟨t237, A10350, H⟩ := H
 replace H : (if t237 = true then ((laws_markBoard.f kj7 t217 t218 t219 1).bind fun bt238 => (if bt238.1 < 0 then (laws_FnExactBoardLose.j1 kj7 t214 t215 true a0_0 a0_1 l0_2 t209 t210 t211 t223 t224 t225) else ((laws_eqBoard.f kj7 t223 t224 t225 t209 t210 t211).bind fun t240 => (if t240 = true then (if t228 = t214 then (laws_FnExactBoardLose.j1 kj7 t214 t215 (t229 != t215) a0_0 a0_1 l0_2 t209 t210 t211 t223 t224 t225) else (laws_FnExactBoardLose.j1 kj7 t214 t215 true a0_0 a0_1 l0_2 t209 t210 t211 t223 t224 t225)) else (laws_FnExactBoardLose.j1 kj7 t214 t215 true a0_0 a0_1 l0_2 t209 t210 t211 t223 t224 t225))))) else (some false)) = some r := H
 have A1035 := Aside0.mk A10350
 clear A10350
 by_cases c1036 : t237 = true
 subst c1036
 have H1 : ((laws_markBoard.f kj7 t217 t218 t219 1).bind fun bt238 => (if bt238.1 < 0 then (laws_FnExactBoardLose.j1 kj7 t214 t215 true a0_0 a0_1 l0_2 t209 t210 t211 t223 t224 t225) else ((laws_eqBoard.f kj7 t223 t224 t225 t209 t210 t211).bind fun t240 => (if t240 = true then (if t228 = t214 then (laws_FnExactBoardLose.j1 kj7 t214 t215 (t229 != t215) a0_0 a0_1 l0_2 t209 t210 t211 t223 t224 t225) else (laws_FnExactBoardLose.j1 kj7 t214 t215 true a0_0 a0_1 l0_2 t209 t210 t211 t223 t224 t225)) else (laws_FnExactBoardLose.j1 kj7 t214 t215 true a0_0 a0_1 l0_2 t209 t210 t211 t223 t224 t225))))) = some r := by rw [if_pos rfl] at H; exact H
 clear H
 have H := H1
 clear H1
 replace H := Option.bind_eq_some_iff.mp H
 obtain ⟨⟨t238, t239⟩, A10370, H⟩ := H
 replace H : (if t238 < 0 then (laws_FnExactBoardLose.j1 kj7 t214 t215 true a0_0 a0_1 l0_2 t209 t210 t211 t223 t224 t225) else ((laws_eqBoard.f kj7 t223 t224 t225 t209 t210 t211).bind fun t240 => (if t240 = true then (if t228 = t214 then (laws_FnExactBoardLose.j1 kj7 t214 t215 (t229 != t215) a0_0 a0_1 l0_2 t209 t210 t211 t223 t224 t225) else (laws_FnExactBoardLose.j1 kj7 t214 t215 true a0_0 a0_1 l0_2 t209 t210 t211 t223 t224 t225)) else (laws_FnExactBoardLose.j1 kj7 t214 t215 true a0_0 a0_1 l0_2 t209 t210 t211 t223 t224 t225)))) = some r := H
 have A1037 := Aside0.mk A10370
 clear A10370
 have HC1038 := Aside0.mk H
 clear H
 rotate_left
 replace c1036 := Bool.eq_false_iff.mpr c1036
 subst c1036
 have H1 : (some false) = some r := by rw [if_neg (show ¬ (false = true) by decide)] at H; exact H
 clear H
 have H := H1
 clear H1
 obtain rfl := Option.some.inj H
 rotate_left
 all_goals (
 try go_wp2
 )
 {
 go_ret
 exact ⟨by first | rfl | (simp [errW_none, errW_some] <;> rfl) | (simp [*, errW_none, errW_some] <;> rfl), wB⟩
 }
 all_goals (
 have n0_ := Aside0.mk (Kd.R_drew HO_217002.out)
 have n1_ := Aside0.mk (Kd.R_drew HO_223002.out)
 have n2_ := Aside0.mk (Kd.R_drew HO_231002.out)
 have n3_ := Aside0.mk (blk_drew BK202.out)
 have n4_ := Aside0.mk (blk_drew BK216.out)
 have n5_ := Aside0.mk (blk_drew BK222.out)
 have n6_ := Aside0.mk (blk_drew BK230.out)
 have n7_ := Aside0.mk (below_drew1 HB.out)
 clear HO_217002
 clear HO_223002
 clear HO_231002
 clear BK202
 clear BK216
 clear BK222
 clear BK230
 clear HB
 have HO_217002 := n0_
 have HO_223002 := n1_
 have HO_231002 := n2_
 have BK202 := n3_
 have BK216 := n4_
 have BK222 := n5_
 have BK230 := n6_
 have HB := n7_
 clear n0_ n1_ n2_ n3_ n4_ n5_ n6_ n7_
 refine start_ (n := 5) (S := fun w' => w'.cell? ⟨gb222, 0, none⟩ = some (.int .i64 t217) ∧ w'.cell? ⟨gb222, 1, none⟩ = some (.int .i64 t218) ∧ w'.cell? ⟨gb222, 2, none⟩ = some (.slice Ao1019 t219.length co1019) ∧ w'.cell? ⟨gb202, 0, none⟩ = some (.int .i64 a0_0) ∧ w'.cell? ⟨gb202, 1, none⟩ = some (.int .i64 a0_1) ∧ w'.cell? ⟨gb202, 2, none⟩ = some (.slice A0_2 l0_2.length c0_2)) (ds := []) #[false, false, false, false, false] (by kernel_rfl) rfl rfl ⟨(blk_cell BK222.out 0).trans rfl, (blk_cell BK222.out 1).trans rfl, (blk_cell BK222.out 2).trans rfl, (blk_cell BK202.out 0).trans rfl, (blk_cell BK202.out 1).trans rfl, (blk_cell BK202.out 2).trans rfl⟩ (fun hHeld => ?_)
 generalize wc.drew = w2001 at HO_217002 HO_223002 HO_231002 BK202 BK216 BK222 BK230 HB hHeld ⊢
 refine take_ (i := 0) (N := some 51) (v := ?_) (a' := ?_) #[true, false, false, false, false] rfl rfl (by kernel_rfl) (fun _ _ _ h => h) (Or.inl ⟨by rfl, ?_⟩) hHeld ?_ ?_
 rotate_left
 {
 rintro w' ⟨s0, s1, s2, s3, s4, s5⟩
 go_simp
 with_reducible rfl
 }
 rotate_left
 {
 simp only [Act.put, List.setIfInBounds_toArray, List.set_cons_zero, List.set_cons_succ, i64_w, i32_w]
 rfl
 }
 refine take_ (i := 1) (N := some 52) (v := ?_) (a' := ?_) #[true, true, false, false, false] rfl rfl (by kernel_rfl) (fun _ _ _ h => h) (Or.inl ⟨by rfl, ?_⟩) hHeld ?_ ?_
 rotate_left
 {
 rintro w' ⟨s0, s1, s2, s3, s4, s5⟩
 go_simp
 with_reducible rfl
 }
 rotate_left
 {
 simp only [Act.put, List.setIfInBounds_toArray, List.set_cons_zero, List.set_cons_succ, i64_w, i32_w]
 rfl
 }
 refine one_ (i := 2) (N := some 53) #[true, true, true, false, false] rfl rfl (by kernel_rfl) (by decide) (fun K hK => ?_)
 refine goes_ Try.func38 (by kernel_rfl) rfl #[.agg #[.int .i64 a0_0, .int .i64 a0_1, .slice A0_2 l0_2.length c0_2]] (by rfl) rfl rfl wT ?_
 with_reducible refine (laws_toBoard.calls kj7 a0_0 a0_1 _ _ l0_2 t232 t233 t234 _ ?side1 ?side2 A1034.out).mono ?_
 (case side1 => exact Kd.C_below HR0_2.out wB)
 (case side2 => exact HC0_2.out)
 rintro e w2002 ⟨v235, rfl, ho0, hb⟩
 refine ⟨_, rfl, ?_⟩
 have n0_ := Aside0.mk (Kd.R_elder' (Rh HO_217002) (Kd.R_base ho0) hb)
 have n1_ := Aside0.mk (Kd.R_elder' (Rh HO_223002) (Kd.R_base ho0) hb)
 have n2_ := Aside0.mk (Kd.R_elder' (Rh HO_231002) (Kd.R_base ho0) hb)
 have n3_ := Aside0.mk (Kd.R_lower (Kd.R_new' (Kd.R_new' (Kd.R_new' ho0 (Kd.R_lt (Rh HO_217002))) (Kd.R_lt (Rh HO_223002))) (Kd.R_lt (Rh HO_231002))) (below_size wB))
 have n4_ := Aside0.mk (blk_below (Bh BK202) hb)
 have n5_ := Aside0.mk (blk_below (Bh BK216) hb)
 have n6_ := Aside0.mk (blk_below (Bh BK222) hb)
 have n7_ := Aside0.mk (blk_below (Bh BK230) hb)
 have n8_ := Aside0.mk (below_step wB hb)
 clear HO_217002
 clear HO_223002
 clear HO_231002
 clear BK202
 clear BK216
 clear BK222
 clear BK230
 clear HB
 have HO_217002 := n0_
 have HO_223002 := n1_
 have HO_231002 := n2_
 have HO236 := n3_
 have BK202 := n4_
 have BK216 := n5_
 have BK222 := n6_
 have BK230 := n7_
 have HB := n8_
 clear n0_ n1_ n2_ n3_ n4_ n5_ n6_ n7_ n8_
 (try clear hb)
 (try clear hb2)
 (try clear hk)
 (try clear hi)
 (try clear ho0)
 obtain ⟨Ao2003, co2003, eo2003⟩ := Kd.R_slice HO236.out
 (first | subst eo2003 | (injection eo2003 with f1_ f2_ f3_; have f4_ := f1_.symm; have f5_ := f3_.symm; clear f1_ f2_ f3_; subst f4_; subst f5_))
 refine hK.out _ _ ⟨(blk_cell BK222.out 0).trans rfl, (blk_cell BK222.out 1).trans rfl, (blk_cell BK222.out 2).trans rfl, (blk_cell BK202.out 0).trans rfl, (blk_cell BK202.out 1).trans rfl, (blk_cell BK202.out 2).trans rfl⟩ (fun hHeld => ?_)
 clear hK K
 refine norm_ (a' := ?_) ?_ ?_
 rotate_left
 {
 show Act.put _ (some 53) _ = _
 simp only [Act.put, List.setIfInBounds_toArray, List.set_cons_zero, List.set_cons_succ, i64_w, i32_w]
 rfl
 }
 refine one_ (i := 3) (N := some 54) #[true, true, true, true, false] rfl rfl (by kernel_rfl) (by decide) (fun K hK => ?_)
 refine goes_ Try.func40 (by kernel_rfl) rfl #[.agg #[.int .i64 t217, .int .i64 t218, .slice Ao1019 t219.length co1019], .agg #[.int .i64 t232, .int .i64 t233, .slice Ao2003 t234.length co2003]] (by rfl) rfl rfl wT ?_
 with_reducible refine (laws_eqBoard.calls kj7 t217 t218 _ _ t219 t232 t233 _ _ t234 _ _ ?side1 ?side2 ?side3 ?side4 A1035.out).mono ?_
 (case side1 => exact Ch HO_223002)
 (case side2 => exact (Kd.R_reads' HO_223002.out).2.1)
 (case side3 => exact Ch HO236)
 (case side4 => exact (Kd.R_reads' HO236.out).2.1)
 rintro e w2004 ⟨rfl, hb⟩
 refine ⟨_, rfl, ?_⟩
 have n0_ := Aside0.mk (Kd.R_below (Rh HO_217002) hb)
 have n1_ := Aside0.mk (Kd.R_below (Rh HO_223002) hb)
 have n2_ := Aside0.mk (Kd.R_below (Rh HO_231002) hb)
 have n3_ := Aside0.mk (Kd.R_below (Rh HO236) hb)
 have n4_ := Aside0.mk (blk_below (Bh BK202) hb)
 have n5_ := Aside0.mk (blk_below (Bh BK216) hb)
 have n6_ := Aside0.mk (blk_below (Bh BK222) hb)
 have n7_ := Aside0.mk (blk_below (Bh BK230) hb)
 have n8_ := Aside0.mk (below_step wB hb)
 clear HO_217002
 clear HO_223002
 clear HO_231002
 clear HO236
 clear BK202
 clear BK216
 clear BK222
 clear BK230
 clear HB
 have HO_217002 := n0_
 have HO_223002 := n1_
 have HO_231002 := n2_
 have HO236 := n3_
 have BK202 := n4_
 have BK216 := n5_
 have BK222 := n6_
 have BK230 := n7_
 have HB := n8_
 clear n0_ n1_ n2_ n3_ n4_ n5_ n6_ n7_ n8_
 (try clear hb)
 (try clear hb2)
 (try clear hk)
 (try clear hi)
 refine hK.out _ _ ⟨(blk_cell BK222.out 0).trans rfl, (blk_cell BK222.out 1).trans rfl, (blk_cell BK222.out 2).trans rfl, (blk_cell BK202.out 0).trans rfl, (blk_cell BK202.out 1).trans rfl, (blk_cell BK202.out 2).trans rfl⟩ (fun hHeld => ?_)
 clear hK K
 refine norm_ (a' := ?_) ?_ ?_
 rotate_left
 {
 show Act.put _ (some 54) _ = _
 simp only [Act.put, List.setIfInBounds_toArray, List.set_cons_zero, List.set_cons_succ, i64_w, i32_w]
 rfl
 }
 refine pure_ (i := 4) (N := some 55) (v := ?_) (a' := ?_) #[true, true, true, true, true] rfl rfl (by kernel_rfl) (fun _ _ _ h => h) (Or.inl ⟨by rfl, ?_⟩) ?_ ?_
 rotate_left
 {
 intro w'
 go_simp
 with_reducible rfl
 }
 rotate_left
 {
 simp only [Act.put, List.setIfInBounds_toArray, List.set_cons_zero, List.set_cons_succ, i64_w, i32_w]
 rfl
 }
 refine done_ (by kernel_rfl) ?_
 )
 {
 have hnb2005 := NB222_202.out
 have hnc2005 := NB202_222.out
 have hnb2006 := NB222_216.out
 have hnc2006 := NB216_222.out
 have hnb2007 := NB222_230.out
 have hnc2007 := NB230_222.out
 obtain ⟨⟨hcz2008_0, hcz2008_1, hcz2008_2⟩, hfz2008_0, hfz2008_1, hfz2008_2⟩ := cells3 BK222.out
 go_upto_region 14 with (first | ((with_reducible refine gate_callee (f := 41) rfl ?_); refine goesL_ (some 58) rfl rfl Try.func41 (by kernel_rfl) rfl #[.agg #[.int .i64 t217, .int .i64 t218, .slice Ao1019 t219.length co1019], .int .i64 1] rfl wT ?_; (with_reducible refine (laws_markBoard.calls kj7 t217 t218 (fun k_ => some k_ = (.slice Ao1019 t219.length co1019 : Value).ownBlock) (.slice Ao1019 t219.length co1019) t219 1 t238 t239 w _ ?side1 ?side2 A1037.out).mono ?_); (case side1 => repeat (first | (with_reducible first | exact HB.out | apply below_alloc | apply pw_below_drewN | apply below_drew1 | refine below_set ?_ GE202.out | refine below_set ?_ GE216.out | refine below_set ?_ GE222.out | refine below_set ?_ GE230.out) | exact HB.out)); (case side2 => exact Kd.R_tight rfl HO_223002.out); rintro e w2009 ⟨rfl, hy0, hb, hkp⟩; refine ⟨_, rfl, ?_⟩; have n0_ := Aside0.mk (Kd.R_mono (ok' := fun k_ => some k_ ≠ (.slice Ao1019 t219.length co1019 : Value).ownBlock ∧ some k_ ≠ (.slice Ao1028 t225.length co1028 : Value).ownBlock ∧ some k_ ≠ (.slice Ao2003 t234.length co2003 : Value).ownBlock) (Kd.R_keptB (HO_217002.out) hkp (fun k_ hk_ hs_ => (hk_.1.1) hs_)) (fun k_ hk_ => ⟨hk_.1.1.1, hk_.1.1.2, hk_.1.2⟩)); have n1_ := Aside0.mk (Kd.R_reok rfl hy0 (fun k_ e_ => HO_223002.out.1 k_ e_)); have n2_ := Aside0.mk (Kd.R_mono (ok' := fun k_ => some k_ ≠ (.slice Ao1011 t211.length co1011 : Value).ownBlock ∧ some k_ ≠ (.slice Ao1019 t219.length co1019 : Value).ownBlock ∧ some k_ ≠ (.slice Ao2003 t234.length co2003 : Value).ownBlock) (Kd.R_keptB (HO_231002.out) hkp (fun k_ hk_ hs_ => (hk_.1.2) hs_)) (fun k_ hk_ => ⟨hk_.1.1.1, hk_.1.1.2, hk_.1.2⟩)); have n3_ := Aside0.mk (blk_kept (Bh BK202) hkp (fun hs_ => (fun e_ => (Kd.R_ne HO_223002.out BK202.out (by decide)) e_) hs_)); have n4_ := Aside0.mk (blk_kept (Bh BK216) hkp (fun hs_ => (fun e_ => (Kd.R_ne HO_223002.out BK216.out (by decide)) e_) hs_)); have n5_ := Aside0.mk (blk_kept (Bh BK222) hkp (fun hs_ => (fun e_ => (Kd.R_ne HO_223002.out BK222.out (by decide)) e_) hs_)); have n6_ := Aside0.mk (blk_kept (Bh BK230) hkp (fun hs_ => (fun e_ => (Kd.R_ne HO_223002.out BK230.out (by decide)) e_) hs_)); have n7_ := Aside0.mk (Kd.R_mono (ok' := fun k_ => some k_ ≠ (.slice Ao1011 t211.length co1011 : Value).ownBlock ∧ some k_ ≠ (.slice Ao1019 t219.length co1019 : Value).ownBlock ∧ some k_ ≠ (.slice Ao1028 t225.length co1028 : Value).ownBlock) (Kd.R_keptB (HO236.out) hkp (fun k_ hk_ hs_ => (hk_.1.2) hs_)) (fun k_ hk_ => ⟨hk_.1.1.1.2, hk_.1.1.2, hk_.1.2⟩)); have n8_ := Aside0.mk (hb); clear HO_217002; clear HO_223002; clear HO_231002; clear BK202; clear BK216; clear BK222; clear BK230; clear HO236; clear HB; have HO_217002 := n0_; have HO_223002 := n1_; have HO_231002 := n2_; have BK202 := n3_; have BK216 := n4_; have BK222 := n5_; have BK230 := n6_; have HO236 := n7_; have HB := n8_; clear n0_ n1_ n2_ n3_ n4_ n5_ n6_ n7_ n8_; (try clear hb); (try clear hkp); (try clear hy0)))
 (try simp only [Act.put, List.setIfInBounds_toArray, List.set_cons_zero, List.set_cons_succ])
 go_cut [76] (fun v76 wc => ∃ (kq : Nat) (x76_1037 : Bool), v76 = .bool x76_1037 ∧ Aside0 (laws_FnExactBoardLose.j1 kq t214 t215 x76_1037 a0_0 a0_1 l0_2 t209 t210 t211 t223 t224 t225 = some r) ∧ Aside0 (kq ≤ kj7) ∧ Aside0 (Kd.R k85 85 wc w.heap.size (fun k_ => some k_ ≠ ((.slice Ao1019 t219.length co1019) : Value).ownBlock ∧ some k_ ≠ ((.slice Ao1028 t225.length co1028) : Value).ownBlock) (.slice Ao1011 t211.length co1011) t211) ∧ Aside0 (Kd.R k85 85 wc w.heap.size (fun k_ => some k_ ≠ ((.slice Ao1011 t211.length co1011) : Value).ownBlock ∧ some k_ ≠ ((.slice Ao1028 t225.length co1028) : Value).ownBlock) (.slice Ao1019 t219.length co1019) t239) ∧ Aside0 (Kd.R k85 85 wc w.heap.size (fun k_ => some k_ ≠ ((.slice Ao1011 t211.length co1011) : Value).ownBlock ∧ some k_ ≠ ((.slice Ao1019 t219.length co1019) : Value).ownBlock) (.slice Ao1028 t225.length co1028) t225) ∧ Aside0 (wc.heap[gb202]? = some (.cells #[.int .i64 a0_0, .int .i64 a0_1, (.slice A0_2 l0_2.length c0_2)] 59 (0, 0))) ∧ Aside0 (wc.heap[gb216]? = some (.cells #[.int .i64 t209, .int .i64 t210, (.slice Ao1011 t211.length co1011)] 63 (0, 0))) ∧ Aside0 (wc.heap[gb222]? = some (.cells #[.int .i64 t217, .int .i64 t218, (.slice Ao1019 t219.length co1019)] 63 (0, 0))) ∧ Aside0 (wc.heap[gb230]? = some (.cells #[.int .i64 t223, .int .i64 t224, (.slice Ao1028 t225.length co1028)] 63 (0, 0))) ∧ Aside0 (Below w.heap.size w wc))
 case first => (
 have H := HC1038.out
 clear HC1038
 by_cases c2010 : t238 < 0
 rw [if_pos c2010] at H
 have c2010b0 : decide (t238 < 0) = true := decide_eq_true c2010
 clear c2010
 (first | rw [c2010b0] | (simp only [i64_w, i32_w]; rw [c2010b0]) | skip)
 have H' := Aside0.mk H
 clear H
 rotate_left
 rw [if_neg c2010] at H
 have c2010b0 : decide (t238 < 0) = false := decide_eq_false c2010
 clear c2010
 (first | rw [c2010b0] | (simp only [i64_w, i32_w]; rw [c2010b0]) | skip)
 replace H := Option.bind_eq_some_iff.mp H
 obtain ⟨t240, A20110, H⟩ := H
 replace H : (if t240 = true then (if t228 = t214 then (laws_FnExactBoardLose.j1 kj7 t214 t215 (t229 != t215) a0_0 a0_1 l0_2 t209 t210 t211 t223 t224 t225) else (laws_FnExactBoardLose.j1 kj7 t214 t215 true a0_0 a0_1 l0_2 t209 t210 t211 t223 t224 t225)) else (laws_FnExactBoardLose.j1 kj7 t214 t215 true a0_0 a0_1 l0_2 t209 t210 t211 t223 t224 t225)) = some r := H
 have A2011 := Aside0.mk A20110
 clear A20110
 by_cases c2012 : t240 = true
 subst c2012
 have H1 : (if t228 = t214 then (laws_FnExactBoardLose.j1 kj7 t214 t215 (t229 != t215) a0_0 a0_1 l0_2 t209 t210 t211 t223 t224 t225) else (laws_FnExactBoardLose.j1 kj7 t214 t215 true a0_0 a0_1 l0_2 t209 t210 t211 t223 t224 t225)) = some r := by rw [if_pos rfl] at H; exact H
 clear H
 have H := H1
 clear H1
 by_cases c2013 : t228 = t214
 rw [if_pos c2013] at H
 have c2013b0 : (t228 == t214) = true := beq_iff_eq.mpr c2013
 have c2013b1 : (t228 != t214) = false := bne_eq_false_iff_eq.mpr c2013
 clear c2013
 have H' := Aside0.mk H
 clear H
 rotate_left
 rw [if_neg c2013] at H
 have c2013b0 : (t228 == t214) = false := beq_eq_false_iff_ne.mpr c2013
 have c2013b1 : (t228 != t214) = true := bne_iff_ne.mpr c2013
 have H' := Aside0.mk H
 clear H
 rotate_left
 replace c2012 := Bool.eq_false_iff.mpr c2012
 subst c2012
 have H1 : (laws_FnExactBoardLose.j1 kj7 t214 t215 true a0_0 a0_1 l0_2 t209 t210 t211 t223 t224 t225) = some r := by rw [if_neg (show ¬ (false = true) by decide)] at H; exact H
 clear H
 have H := H1
 clear H1
 have H' := Aside0.mk H
 clear H
 rotate_left
 {
 go_wp2
 go_meet
 case rel => exact ⟨_, (true), (by first | rfl | (simp; done) | (simp [*]; done)), H', ⟨by have := HJ7.out; first | omega | exact Nat.le_refl _⟩, ⟨Kd.R_mono (Rh HO_217002) (fun _ hk => ⟨hk.1, hk.2.1⟩)⟩, ⟨Kd.R_mono (Rh HO_223002) (fun _ hk => ⟨hk.1.1, hk.1.2⟩)⟩, ⟨Kd.R_mono (Rh HO_231002) (fun _ hk => ⟨hk.1, hk.2.1⟩)⟩, ⟨Bh BK202⟩, ⟨Bh BK216⟩, ⟨Bh BK222⟩, ⟨Bh BK230⟩, ⟨wB⟩⟩
 }
 all_goals (
 have hnb3001 := NB230_202.out
 have hnc3001 := NB202_230.out
 have hnb3002 := NB230_216.out
 have hnc3002 := NB216_230.out
 have hnb3003 := NB230_222.out
 have hnc3003 := NB222_230.out
 obtain ⟨⟨hcz3004_0, hcz3004_1, hcz3004_2⟩, hfz3004_0, hfz3004_1, hfz3004_2⟩ := cells3 BK230.out
 have hnb3005 := NB216_202.out
 have hnc3005 := NB202_216.out
 have hnb3006 := NB216_222.out
 have hnc3006 := NB222_216.out
 obtain ⟨⟨hcz3007_0, hcz3007_1, hcz3007_2⟩, hfz3007_0, hfz3007_1, hfz3007_2⟩ := cells3 BK216.out
 go_wp2_with (first | (go_at_call 40; (with_reducible refine (laws_eqBoard.calls kj7 t223 t224 _ _ t225 t209 t210 _ _ t211 _ _ ?side1 ?side2 ?side3 ?side4 A2011.out).mono ?_); (case side1 => exact Ch HO_231002); (case side2 => exact (Kd.R_reads' HO_231002.out).2.1); (case side3 => exact Ch HO_217002); (case side4 => exact (Kd.R_reads' HO_217002.out).2.1); rintro e w3008 ⟨rfl, hb⟩; have n0_ := Aside0.mk (Kd.R_below (Rh HO_217002) hb); have n1_ := Aside0.mk (Kd.R_below (Rh HO_223002) hb); have n2_ := Aside0.mk (Kd.R_below (Rh HO_231002) hb); have n3_ := Aside0.mk (Kd.R_below (Rh HO236) hb); have n4_ := Aside0.mk (blk_below (Bh BK202) hb); have n5_ := Aside0.mk (blk_below (Bh BK216) hb); have n6_ := Aside0.mk (blk_below (Bh BK222) hb); have n7_ := Aside0.mk (blk_below (Bh BK230) hb); have n8_ := Aside0.mk (below_step wB hb); clear HO_217002; clear HO_223002; clear HO_231002; clear HO236; clear BK202; clear BK216; clear BK222; clear BK230; clear HB; have HO_217002 := n0_; have HO_223002 := n1_; have HO_231002 := n2_; have HO236 := n3_; have BK202 := n4_; have BK216 := n5_; have BK222 := n6_; have BK230 := n7_; have HB := n8_; clear n0_ n1_ n2_ n3_ n4_ n5_ n6_ n7_ n8_; (try clear hb); (try clear hb2); (try clear hk); (try clear hi)))
 go_meet
 )
 {
 case rel => exact ⟨_, ((t229 != t215)), (by first | rfl | (simp; done) | (simp [*]; done)), H', ⟨by have := HJ7.out; first | omega | exact Nat.le_refl _⟩, ⟨Kd.R_mono (Rh HO_217002) (fun _ hk => ⟨hk.1, hk.2.1⟩)⟩, ⟨Kd.R_mono (Rh HO_223002) (fun _ hk => ⟨hk.1.1, hk.1.2⟩)⟩, ⟨Kd.R_mono (Rh HO_231002) (fun _ hk => ⟨hk.1, hk.2.1⟩)⟩, ⟨Bh BK202⟩, ⟨Bh BK216⟩, ⟨Bh BK222⟩, ⟨Bh BK230⟩, ⟨wB⟩⟩
 }
 all_goals (
 case rel => exact ⟨_, (true), (by first | rfl | (simp; done) | (simp [*]; done)), H', ⟨by have := HJ7.out; first | omega | exact Nat.le_refl _⟩, ⟨Kd.R_mono (Rh HO_217002) (fun _ hk => ⟨hk.1, hk.2.1⟩)⟩, ⟨Kd.R_mono (Rh HO_223002) (fun _ hk => ⟨hk.1.1, hk.1.2⟩)⟩, ⟨Kd.R_mono (Rh HO_231002) (fun _ hk => ⟨hk.1, hk.2.1⟩)⟩, ⟨Bh BK202⟩, ⟨Bh BK216⟩, ⟨Bh BK222⟩, ⟨Bh BK230⟩, ⟨wB⟩⟩
 )
 )
 case rest => (
 clear HC1038
 try clear c0
 try clear c3
 try clear c3b0
 try clear c1031
 try clear c1032
 try clear c1032b0
 try clear c1032b1
 try clear c1033
 try clear c1036
 try clear c2010
 try clear c2010b0
 try clear c2012
 try clear c2013
 try clear c2013b0
 try clear c2013b1
 try clear hcz1002_0 hcz1002_1 hcz1002_2 hfz1002_0 hfz1002_1 hfz1002_2
 try clear hcz1004_0 hcz1004_1 hcz1004_2 hfz1004_0 hfz1004_1 hfz1004_2
 try clear hcz1010_0 hcz1010_1 hcz1010_2 hfz1010_0 hfz1010_1 hfz1010_2
 try clear hcz1013_0 hcz1013_1 hcz1013_2 hfz1013_0 hfz1013_1 hfz1013_2
 try clear hcz1018_0 hcz1018_1 hcz1018_2 hfz1018_0 hfz1018_1 hfz1018_2
 try clear hcz1021_0 hcz1021_1 hcz1021_2 hfz1021_0 hfz1021_1 hfz1021_2
 try clear hcz1027_0 hcz1027_1 hcz1027_2 hfz1027_0 hfz1027_1 hfz1027_2
 try clear hcz2004_0 hcz2004_1 hcz2004_2 hfz2004_0 hfz2004_1 hfz2004_2
 try clear hcz2007_0 hcz2007_1 hcz2007_2 hfz2007_0 hfz2007_1 hfz2007_2
 try clear hcz2008_0 hcz2008_1 hcz2008_2 hfz2008_0 hfz2008_1 hfz2008_2
 try clear hcz3004_0 hcz3004_1 hcz3004_2 hfz3004_0 hfz3004_1 hfz3004_2
 try clear hcz3007_0 hcz3007_1 hcz3007_2 hfz3007_0 hfz3007_1 hfz3007_2
 obtain ⟨kq, x76_1037, rfl, HA, HJ1037, HO_217002, HO_223002, HO_231002, BK202, BK216, BK222, BK230, HB⟩ := hcut
 have hl223002_1037 := (Kd.R_reads' HO_223002.out).1
 rw [hl223002_1037] at HO_223002
 (try simp only [hl223002_1037])
 (try simp only [hl223002_1037] at BK202)
 (try simp only [hl223002_1037] at BK216)
 (try simp only [hl223002_1037] at BK222)
 (try simp only [hl223002_1037] at BK230)
 (try simp only [hl223002_1037] at HO_217002)
 (try simp only [hl223002_1037] at HO_231002)
 cases kq with
 | zero => exact absurd HA.out (by simp [laws_FnExactBoardLose.j1])
 | succ kj1037 => {
 have H := HA.out
 clear HA
 simp only [laws_FnExactBoardLose.j1] at H
 by_cases c2014 : x76_1037 = true
 subst c2014
 have H1 : (some false) = some r := by rw [if_pos rfl] at H; exact H
 clear H
 have H := H1
 clear H1
 obtain rfl := Option.some.inj H
 rotate_left
 replace c2014 := Bool.eq_false_iff.mpr c2014
 subst c2014
 have H1 : ((laws_markBoard.f kj1037 t223 t224 t225 1).bind fun bt241 => ((laws_heldBoard.f kj1037 t223 t224 bt241.2 1).bind fun t243 => (if t243 < 0 then (some false) else (if t243 = bt241.1 then ((laws_toBoard.f kj1037 a0_0 a0_1 l0_2).bind fun bt244 => ((impl_BoardLose.f kj1037 bt244.1 bt244.2.1 bt244.2.2).bind fun bt249 => ((laws_eqBoard.f kj1037 bt249.1 bt249.2.1 bt249.2.2.1 t209 t210 t211).bind fun t257 => (if t257 = true then (if bt249.2.2.2.1 = t214 then (laws_FnExactBoardLose.j2 kj1037 bt241.1 (bt249.2.2.2.2 != t215) t223 t224 bt241.2) else (laws_FnExactBoardLose.j2 kj1037 bt241.1 true t223 t224 bt241.2)) else (laws_FnExactBoardLose.j2 kj1037 bt241.1 true t223 t224 bt241.2))))) else (some false))))) = some r := by rw [if_neg (show ¬ (false = true) by decide)] at H; exact H
 clear H
 have H := H1
 clear H1
 replace H := Option.bind_eq_some_iff.mp H
 obtain ⟨⟨t241, t242⟩, A20150, H⟩ := H
 replace H : ((laws_heldBoard.f kj1037 t223 t224 t242 1).bind fun t243 => (if t243 < 0 then (some false) else (if t243 = t241 then ((laws_toBoard.f kj1037 a0_0 a0_1 l0_2).bind fun bt244 => ((impl_BoardLose.f kj1037 bt244.1 bt244.2.1 bt244.2.2).bind fun bt249 => ((laws_eqBoard.f kj1037 bt249.1 bt249.2.1 bt249.2.2.1 t209 t210 t211).bind fun t257 => (if t257 = true then (if bt249.2.2.2.1 = t214 then (laws_FnExactBoardLose.j2 kj1037 t241 (bt249.2.2.2.2 != t215) t223 t224 t242) else (laws_FnExactBoardLose.j2 kj1037 t241 true t223 t224 t242)) else (laws_FnExactBoardLose.j2 kj1037 t241 true t223 t224 t242))))) else (some false)))) = some r := H
 have A2015 := Aside0.mk A20150
 clear A20150
 replace H := Option.bind_eq_some_iff.mp H
 obtain ⟨t243, A20160, H⟩ := H
 replace H : (if t243 < 0 then (some false) else (if t243 = t241 then ((laws_toBoard.f kj1037 a0_0 a0_1 l0_2).bind fun bt244 => ((impl_BoardLose.f kj1037 bt244.1 bt244.2.1 bt244.2.2).bind fun bt249 => ((laws_eqBoard.f kj1037 bt249.1 bt249.2.1 bt249.2.2.1 t209 t210 t211).bind fun t257 => (if t257 = true then (if bt249.2.2.2.1 = t214 then (laws_FnExactBoardLose.j2 kj1037 t241 (bt249.2.2.2.2 != t215) t223 t224 t242) else (laws_FnExactBoardLose.j2 kj1037 t241 true t223 t224 t242)) else (laws_FnExactBoardLose.j2 kj1037 t241 true t223 t224 t242))))) else (some false))) = some r := H
 have A2016 := Aside0.mk A20160
 clear A20160
 by_cases c2017 : t243 < 0
 rw [if_pos c2017] at H
 have c2017b0 : decide (t243 < 0) = true := decide_eq_true c2017
 clear c2017
 obtain rfl := Option.some.inj H
 rotate_left
 rw [if_neg c2017] at H
 have c2017b0 : decide (t243 < 0) = false := decide_eq_false c2017
 clear c2017
 by_cases c2018 : t243 = t241
 rw [if_pos c2018] at H
 have c2018b0 : (t243 == t241) = true := beq_iff_eq.mpr c2018
 have c2018b1 : (t243 != t241) = false := bne_eq_false_iff_eq.mpr c2018
 clear c2018
 replace H := Option.bind_eq_some_iff.mp H
 obtain ⟨⟨t244, t245, t246⟩, A20190, H⟩ := H
 replace H : ((impl_BoardLose.f kj1037 t244 t245 t246).bind fun bt249 => ((laws_eqBoard.f kj1037 bt249.1 bt249.2.1 bt249.2.2.1 t209 t210 t211).bind fun t257 => (if t257 = true then (if bt249.2.2.2.1 = t214 then (laws_FnExactBoardLose.j2 kj1037 t241 (bt249.2.2.2.2 != t215) t223 t224 t242) else (laws_FnExactBoardLose.j2 kj1037 t241 true t223 t224 t242)) else (laws_FnExactBoardLose.j2 kj1037 t241 true t223 t224 t242)))) = some r := H
 have A2019 := Aside0.mk A20190
 clear A20190
 replace H := Option.bind_eq_some_iff.mp H
 obtain ⟨⟨t249, t250, t251, t254, t255⟩, A20200, H⟩ := H
 replace H : ((laws_eqBoard.f kj1037 t249 t250 t251 t209 t210 t211).bind fun t257 => (if t257 = true then (if t254 = t214 then (laws_FnExactBoardLose.j2 kj1037 t241 (t255 != t215) t223 t224 t242) else (laws_FnExactBoardLose.j2 kj1037 t241 true t223 t224 t242)) else (laws_FnExactBoardLose.j2 kj1037 t241 true t223 t224 t242))) = some r := H
 have A2020 := Aside0.mk A20200
 clear A20200
 have HC2021 := Aside0.mk H
 clear H
 rotate_left
 rw [if_neg c2018] at H
 have c2018b0 : (t243 == t241) = false := beq_eq_false_iff_ne.mpr c2018
 have c2018b1 : (t243 != t241) = true := bne_iff_ne.mpr c2018
 obtain rfl := Option.some.inj H
 rotate_left
 {
 go_wp2
 go_ret
 exact ⟨by first | rfl | (simp [errW_none, errW_some] <;> rfl) | (simp [*, errW_none, errW_some] <;> rfl), wB⟩
 }
 all_goals (
 have hnb3001 := NB230_202.out
 have hnc3001 := NB202_230.out
 have hnb3002 := NB230_216.out
 have hnc3002 := NB216_230.out
 have hnb3003 := NB230_222.out
 have hnc3003 := NB222_230.out
 obtain ⟨⟨hcz3004_0, hcz3004_1, hcz3004_2⟩, hfz3004_0, hfz3004_1, hfz3004_2⟩ := cells3 BK230.out
 )
 {
 go_wp2_with (first | ((with_reducible refine gate_callee (f := 41) rfl ?_); refine goesL_ (some 79) rfl rfl Try.func41 (by kernel_rfl) rfl #[.agg #[.int .i64 t223, .int .i64 t224, .slice Ao1028 t225.length co1028], .int .i64 1] rfl wT ?_; (with_reducible refine (laws_markBoard.calls kj1037 t223 t224 (fun k_ => some k_ = (.slice Ao1028 t225.length co1028 : Value).ownBlock) (.slice Ao1028 t225.length co1028) t225 1 t241 t242 w _ ?side1 ?side2 A2015.out).mono ?_); (case side1 => repeat (first | (with_reducible first | exact HB.out | apply below_alloc | apply pw_below_drewN | apply below_drew1 | refine below_set ?_ GE202.out | refine below_set ?_ GE216.out | refine below_set ?_ GE222.out | refine below_set ?_ GE230.out) | exact HB.out)); (case side2 => exact Kd.R_tight rfl HO_231002.out); rintro e w3005 ⟨rfl, hy0, hb, hkp⟩; refine ⟨_, rfl, ?_⟩; have n0_ := Aside0.mk (Kd.R_mono (ok' := fun k_ => some k_ ≠ (.slice Ao1019 t239.length co1019 : Value).ownBlock ∧ some k_ ≠ (.slice Ao1028 t225.length co1028 : Value).ownBlock) (Kd.R_keptB (HO_217002.out) hkp (fun k_ hk_ hs_ => (hk_.2) hs_)) (fun k_ hk_ => ⟨hk_.1.1, hk_.1.2⟩)); have n1_ := Aside0.mk (Kd.R_mono (ok' := fun k_ => some k_ ≠ (.slice Ao1011 t211.length co1011 : Value).ownBlock ∧ some k_ ≠ (.slice Ao1028 t225.length co1028 : Value).ownBlock) (Kd.R_keptB (HO_223002.out) hkp (fun k_ hk_ hs_ => (hk_.2) hs_)) (fun k_ hk_ => ⟨hk_.1.1, hk_.1.2⟩)); have n2_ := Aside0.mk (Kd.R_reok rfl hy0 (fun k_ e_ => HO_231002.out.1 k_ e_)); have n3_ := Aside0.mk (blk_kept (Bh BK202) hkp (fun hs_ => (fun e_ => (Kd.R_ne HO_231002.out BK202.out (by decide)) e_) hs_)); have n4_ := Aside0.mk (blk_kept (Bh BK216) hkp (fun hs_ => (fun e_ => (Kd.R_ne HO_231002.out BK216.out (by decide)) e_) hs_)); have n5_ := Aside0.mk (blk_kept (Bh BK222) hkp (fun hs_ => (fun e_ => (Kd.R_ne HO_231002.out BK222.out (by decide)) e_) hs_)); have n6_ := Aside0.mk (blk_kept (Bh BK230) hkp (fun hs_ => (fun e_ => (Kd.R_ne HO_231002.out BK230.out (by decide)) e_) hs_)); have n7_ := Aside0.mk (hb); clear HO_217002; clear HO_223002; clear HO_231002; clear BK202; clear BK216; clear BK222; clear BK230; clear HB; have HO_217002 := n0_; have HO_223002 := n1_; have HO_231002 := n2_; have BK202 := n3_; have BK216 := n4_; have BK222 := n5_; have BK230 := n6_; have HB := n7_; clear n0_ n1_ n2_ n3_ n4_ n5_ n6_ n7_; (try clear hb); (try clear hkp); (try clear hy0); obtain ⟨⟨hcz3006_0, hcz3006_1, hcz3006_2⟩, hfz3006_0, hfz3006_1, hfz3006_2⟩ := cells3 BK230.out) | ((with_reducible refine gate_callee (f := 42) rfl ?_); refine goesL_ (some 82) rfl rfl Try.func42 (by kernel_rfl) rfl #[.agg #[.int .i64 t223, .int .i64 t224, .slice Ao1028 t242.length co1028], .int .i64 1] rfl (by (try simp only [List.map_toArray, List.map_cons, List.map_nil]); first | done | (rw [show t242.length = t225.length from (Kd.R_reads' HO_231002.out).1.symm] <;> rfl) | rfl | (simp only [List.length_drop, List.length_take]; rfl)) ?_; (with_reducible refine (laws_heldBoard.calls kj1037 t223 t224 _ _ t242 1 t243 _ ?side1 ?side2 A2016.out).mono ?_); (case side1 => exact Ch HO_231002); (case side2 => rw [show t242.length = t225.length from (Kd.R_reads' HO_231002.out).1.symm]; exact (Kd.R_reads' HO_231002.out).2.1); rintro e w3007 ⟨rfl, hb⟩; refine ⟨_, rfl, ?_⟩; have n0_ := Aside0.mk (Kd.R_below (Rh HO_217002) hb); have n1_ := Aside0.mk (Kd.R_below (Rh HO_223002) hb); have n2_ := Aside0.mk (Kd.R_below (Rh HO_231002) hb); have n3_ := Aside0.mk (blk_below (Bh BK202) hb); have n4_ := Aside0.mk (blk_below (Bh BK216) hb); have n5_ := Aside0.mk (blk_below (Bh BK222) hb); have n6_ := Aside0.mk (blk_below (Bh BK230) hb); have n7_ := Aside0.mk (below_step wB hb); clear HO_217002; clear HO_223002; clear HO_231002; clear BK202; clear BK216; clear BK222; clear BK230; clear HB; have HO_217002 := n0_; have HO_223002 := n1_; have HO_231002 := n2_; have BK202 := n3_; have BK216 := n4_; have BK222 := n5_; have BK230 := n6_; have HB := n7_; clear n0_ n1_ n2_ n3_ n4_ n5_ n6_ n7_; (try clear hb); (try clear hb2); (try clear hk); (try clear hi)))
 go_ret
 exact ⟨by first | rfl | (simp [errW_none, errW_some] <;> rfl) | (simp [*, errW_none, errW_some] <;> rfl), wB⟩
 }
 {
 go_upto_region 25 with (first | ((with_reducible refine gate_callee (f := 41) rfl ?_); refine goesL_ (some 79) rfl rfl Try.func41 (by kernel_rfl) rfl #[.agg #[.int .i64 t223, .int .i64 t224, .slice Ao1028 t225.length co1028], .int .i64 1] rfl wT ?_; (with_reducible refine (laws_markBoard.calls kj1037 t223 t224 (fun k_ => some k_ = (.slice Ao1028 t225.length co1028 : Value).ownBlock) (.slice Ao1028 t225.length co1028) t225 1 t241 t242 w _ ?side1 ?side2 A2015.out).mono ?_); (case side1 => repeat (first | (with_reducible first | exact HB.out | apply below_alloc | apply pw_below_drewN | apply below_drew1 | refine below_set ?_ GE202.out | refine below_set ?_ GE216.out | refine below_set ?_ GE222.out | refine below_set ?_ GE230.out) | exact HB.out)); (case side2 => exact Kd.R_tight rfl HO_231002.out); rintro e w3005 ⟨rfl, hy0, hb, hkp⟩; refine ⟨_, rfl, ?_⟩; have n0_ := Aside0.mk (Kd.R_mono (ok' := fun k_ => some k_ ≠ (.slice Ao1019 t239.length co1019 : Value).ownBlock ∧ some k_ ≠ (.slice Ao1028 t225.length co1028 : Value).ownBlock) (Kd.R_keptB (HO_217002.out) hkp (fun k_ hk_ hs_ => (hk_.2) hs_)) (fun k_ hk_ => ⟨hk_.1.1, hk_.1.2⟩)); have n1_ := Aside0.mk (Kd.R_mono (ok' := fun k_ => some k_ ≠ (.slice Ao1011 t211.length co1011 : Value).ownBlock ∧ some k_ ≠ (.slice Ao1028 t225.length co1028 : Value).ownBlock) (Kd.R_keptB (HO_223002.out) hkp (fun k_ hk_ hs_ => (hk_.2) hs_)) (fun k_ hk_ => ⟨hk_.1.1, hk_.1.2⟩)); have n2_ := Aside0.mk (Kd.R_reok rfl hy0 (fun k_ e_ => HO_231002.out.1 k_ e_)); have n3_ := Aside0.mk (blk_kept (Bh BK202) hkp (fun hs_ => (fun e_ => (Kd.R_ne HO_231002.out BK202.out (by decide)) e_) hs_)); have n4_ := Aside0.mk (blk_kept (Bh BK216) hkp (fun hs_ => (fun e_ => (Kd.R_ne HO_231002.out BK216.out (by decide)) e_) hs_)); have n5_ := Aside0.mk (blk_kept (Bh BK222) hkp (fun hs_ => (fun e_ => (Kd.R_ne HO_231002.out BK222.out (by decide)) e_) hs_)); have n6_ := Aside0.mk (blk_kept (Bh BK230) hkp (fun hs_ => (fun e_ => (Kd.R_ne HO_231002.out BK230.out (by decide)) e_) hs_)); have n7_ := Aside0.mk (hb); clear HO_217002; clear HO_223002; clear HO_231002; clear BK202; clear BK216; clear BK222; clear BK230; clear HB; have HO_217002 := n0_; have HO_223002 := n1_; have HO_231002 := n2_; have BK202 := n3_; have BK216 := n4_; have BK222 := n5_; have BK230 := n6_; have HB := n7_; clear n0_ n1_ n2_ n3_ n4_ n5_ n6_ n7_; (try clear hb); (try clear hkp); (try clear hy0); obtain ⟨⟨hcz3006_0, hcz3006_1, hcz3006_2⟩, hfz3006_0, hfz3006_1, hfz3006_2⟩ := cells3 BK230.out) | ((with_reducible refine gate_callee (f := 42) rfl ?_); refine goesL_ (some 82) rfl rfl Try.func42 (by kernel_rfl) rfl #[.agg #[.int .i64 t223, .int .i64 t224, .slice Ao1028 t242.length co1028], .int .i64 1] rfl (by (try simp only [List.map_toArray, List.map_cons, List.map_nil]); first | done | (rw [show t242.length = t225.length from (Kd.R_reads' HO_231002.out).1.symm] <;> rfl) | rfl | (simp only [List.length_drop, List.length_take]; rfl)) ?_; (with_reducible refine (laws_heldBoard.calls kj1037 t223 t224 _ _ t242 1 t243 _ ?side1 ?side2 A2016.out).mono ?_); (case side1 => exact Ch HO_231002); (case side2 => rw [show t242.length = t225.length from (Kd.R_reads' HO_231002.out).1.symm]; exact (Kd.R_reads' HO_231002.out).2.1); rintro e w3007 ⟨rfl, hb⟩; refine ⟨_, rfl, ?_⟩; have n0_ := Aside0.mk (Kd.R_below (Rh HO_217002) hb); have n1_ := Aside0.mk (Kd.R_below (Rh HO_223002) hb); have n2_ := Aside0.mk (Kd.R_below (Rh HO_231002) hb); have n3_ := Aside0.mk (blk_below (Bh BK202) hb); have n4_ := Aside0.mk (blk_below (Bh BK216) hb); have n5_ := Aside0.mk (blk_below (Bh BK222) hb); have n6_ := Aside0.mk (blk_below (Bh BK230) hb); have n7_ := Aside0.mk (below_step wB hb); clear HO_217002; clear HO_223002; clear HO_231002; clear BK202; clear BK216; clear BK222; clear BK230; clear HB; have HO_217002 := n0_; have HO_223002 := n1_; have HO_231002 := n2_; have BK202 := n3_; have BK216 := n4_; have BK222 := n5_; have BK230 := n6_; have HB := n7_; clear n0_ n1_ n2_ n3_ n4_ n5_ n6_ n7_; (try clear hb); (try clear hb2); (try clear hk); (try clear hi); have hnb3008 := NB202_216.out; have hnc3008 := NB216_202.out; have hnb3009 := NB202_222.out; have hnc3009 := NB222_202.out; obtain ⟨⟨hcz3010_0, hcz3010_1, hcz3010_2⟩, hfz3010_0, hfz3010_1, hfz3010_2⟩ := cells3 BK202.out) | ((with_reducible refine gate_callee (f := 38) rfl ?_); refine goesL_ (some 90) rfl rfl Try.func38 (by kernel_rfl) rfl #[.agg #[.int .i64 a0_0, .int .i64 a0_1, .slice A0_2 l0_2.length c0_2]] rfl wT ?_; (with_reducible refine (laws_toBoard.calls kj1037 a0_0 a0_1 _ _ l0_2 t244 t245 t246 _ ?side1 ?side2 A2019.out).mono ?_); (case side1 => exact Kd.C_below HR0_2.out wB); (case side2 => exact HC0_2.out); rintro e w3011 ⟨v247, rfl, ho0, hb⟩; refine ⟨_, rfl, ?_⟩; have n0_ := Aside0.mk (Kd.R_elder' (Rh HO_217002) (Kd.R_base ho0) hb); have n1_ := Aside0.mk (Kd.R_elder' (Rh HO_223002) (Kd.R_base ho0) hb); have n2_ := Aside0.mk (Kd.R_elder' (Rh HO_231002) (Kd.R_base ho0) hb); have n3_ := Aside0.mk (Kd.R_lower (Kd.R_new' (Kd.R_new' (Kd.R_new' ho0 (Kd.R_lt (Rh HO_217002))) (Kd.R_lt (Rh HO_223002))) (Kd.R_lt (Rh HO_231002))) (below_size wB)); have n4_ := Aside0.mk (blk_below (Bh BK202) hb); have n5_ := Aside0.mk (blk_below (Bh BK216) hb); have n6_ := Aside0.mk (blk_below (Bh BK222) hb); have n7_ := Aside0.mk (blk_below (Bh BK230) hb); have n8_ := Aside0.mk (below_step wB hb); clear HO_217002; clear HO_223002; clear HO_231002; clear BK202; clear BK216; clear BK222; clear BK230; clear HB; have HO_217002 := n0_; have HO_223002 := n1_; have HO_231002 := n2_; have HO248 := n3_; have BK202 := n4_; have BK216 := n5_; have BK222 := n6_; have BK230 := n7_; have HB := n8_; clear n0_ n1_ n2_ n3_ n4_ n5_ n6_ n7_ n8_; (try clear hb); (try clear hb2); (try clear hk); (try clear hi); (try clear ho0); obtain ⟨Ao3012, co3012, eo3012⟩ := Kd.R_slice HO248.out; subst eo3012) | ((with_reducible refine gate_callee (f := 48) rfl ?_); refine goesL_ (some 91) rfl rfl Try.func48 (by kernel_rfl) rfl #[.agg #[.int .i64 t244, .int .i64 t245, .slice Ao3012 t246.length co3012]] rfl wT ?_; (with_reducible refine (impl_BoardLose.calls kj1037 t244 t245 _ _ t246 t249 t250 t251 t254 t255 _ ?side1 ?side2 A2020.out).mono ?_); (case side1 => exact Ch HO248); (case side2 => exact (Kd.R_reads' HO248.out).2.1); rintro e w3013 ⟨v252, rfl, ho0, hb⟩; refine ⟨_, rfl, ?_⟩; have n0_ := Aside0.mk (Kd.R_elder' (Rh HO_217002) (Kd.R_base ho0) hb); have n1_ := Aside0.mk (Kd.R_elder' (Rh HO_223002) (Kd.R_base ho0) hb); have n2_ := Aside0.mk (Kd.R_elder' (Rh HO_231002) (Kd.R_base ho0) hb); have n3_ := Aside0.mk (Kd.R_elder' (Rh HO248) (Kd.R_base ho0) hb); have n4_ := Aside0.mk (Kd.R_lower (Kd.R_new' (Kd.R_new' (Kd.R_new' (Kd.R_new' ho0 (Kd.R_lt (Rh HO_217002))) (Kd.R_lt (Rh HO_223002))) (Kd.R_lt (Rh HO_231002))) (Kd.R_lt (Rh HO248))) (below_size wB)); have n5_ := Aside0.mk (blk_below (Bh BK202) hb); have n6_ := Aside0.mk (blk_below (Bh BK216) hb); have n7_ := Aside0.mk (blk_below (Bh BK222) hb); have n8_ := Aside0.mk (blk_below (Bh BK230) hb); have n9_ := Aside0.mk (below_step wB hb); clear HO_217002; clear HO_223002; clear HO_231002; clear HO248; clear BK202; clear BK216; clear BK222; clear BK230; clear HB; have HO_217002 := n0_; have HO_223002 := n1_; have HO_231002 := n2_; have HO248 := n3_; have HO253 := n4_; have BK202 := n5_; have BK216 := n6_; have BK222 := n7_; have BK230 := n8_; have HB := n9_; clear n0_ n1_ n2_ n3_ n4_ n5_ n6_ n7_ n8_ n9_; (try clear hb); (try clear hb2); (try clear hk); (try clear hi); (try clear ho0)) | ((with_reducible refine gate_dst (N := 14) rfl ?_); refine box_event ?hg (N := 14) ?hd (cs := #[.int .i64 0, .int .i64 0, .slice none 0 0]) (t := 63) ?hr ?_; (case hd => rfl); (case hg => rfl); (case hr => first | (go_simp; done) | (go_simp; rfl)); intro gb256 hg w3014 hbox hb; have n0_ := Aside0.mk (Kd.R_below (Rh HO_217002) hb); have n1_ := Aside0.mk (Kd.R_below (Rh HO_223002) hb); have n2_ := Aside0.mk (Kd.R_below (Rh HO_231002) hb); have n3_ := Aside0.mk (Kd.R_below (Rh HO248) hb); have n4_ := Aside0.mk (Kd.R_below (Rh HO253) hb); have n5_ := Aside0.mk (blk_below (Bh BK202) hb); have n6_ := Aside0.mk (blk_below (Bh BK216) hb); have n7_ := Aside0.mk (blk_below (Bh BK222) hb); have n8_ := Aside0.mk (blk_below (Bh BK230) hb); have n9_ := Aside0.mk (below_step wB hb); have n10_ := Aside0.mk (hbox); have n11_ := Aside0.mk ((by rw [hg]; exact (below_size wB) : w.heap.size ≤ gb256)); have n12_ := Aside0.mk ((by rw [hg]; exact (below_size wB) : w.heap.size ≤ gb256)); have n13_ := Aside0.mk ((by rw [hg]; exact Nat.ne_of_lt (blk_lt (Bh BK202)) : gb202 ≠ gb256)); have n14_ := Aside0.mk ((by rw [hg]; exact Nat.ne_of_gt (blk_lt (Bh BK202)) : gb256 ≠ gb202)); have n15_ := Aside0.mk ((by rw [hg]; exact Nat.ne_of_lt (blk_lt (Bh BK216)) : gb216 ≠ gb256)); have n16_ := Aside0.mk ((by rw [hg]; exact Nat.ne_of_gt (blk_lt (Bh BK216)) : gb256 ≠ gb216)); have n17_ := Aside0.mk ((by rw [hg]; exact Nat.ne_of_lt (blk_lt (Bh BK222)) : gb222 ≠ gb256)); have n18_ := Aside0.mk ((by rw [hg]; exact Nat.ne_of_gt (blk_lt (Bh BK222)) : gb256 ≠ gb222)); have n19_ := Aside0.mk ((by rw [hg]; exact Nat.ne_of_lt (blk_lt (Bh BK230)) : gb230 ≠ gb256)); have n20_ := Aside0.mk ((by rw [hg]; exact Nat.ne_of_gt (blk_lt (Bh BK230)) : gb256 ≠ gb230)); clear HO_217002; clear HO_223002; clear HO_231002; clear HO248; clear HO253; clear BK202; clear BK216; clear BK222; clear BK230; clear HB; have HO_217002 := n0_; have HO_223002 := n1_; have HO_231002 := n2_; have HO248 := n3_; have HO253 := n4_; have BK202 := n5_; have BK216 := n6_; have BK222 := n7_; have BK230 := n8_; have HB := n9_; have BK256 := n10_; have GW256 := n11_; have GE256 := n12_; have NB202_256 := n13_; have NB256_202 := n14_; have NB216_256 := n15_; have NB256_216 := n16_; have NB222_256 := n17_; have NB256_222 := n18_; have NB230_256 := n19_; have NB256_230 := n20_; clear n0_ n1_ n2_ n3_ n4_ n5_ n6_ n7_ n8_ n9_ n10_ n11_ n12_ n13_ n14_ n15_ n16_ n17_ n18_ n19_ n20_; clear hb hbox hg; have hnb3015 := NB256_202.out; have hnc3015 := NB202_256.out; have hnb3016 := NB256_216.out; have hnc3016 := NB216_256.out; have hnb3017 := NB256_222.out; have hnc3017 := NB222_256.out; have hnb3018 := NB256_230.out; have hnc3018 := NB230_256.out; obtain ⟨⟨hcz3019_0, hcz3019_1, hcz3019_2⟩, hfz3019_0, hfz3019_1, hfz3019_2⟩ := cells3 BK256.out; obtain ⟨Ao3020, co3020, eo3020⟩ := Kd.R_slice HO253.out; subst eo3020) | ((with_reducible refine gate_store (t := 63) (p := 14) rfl ?_); (try (rw [drewN_self w3014]; generalize hq_ : World.drewN w3014 _ = w3014; have n0_ := Aside0.mk (Kd.R_at hq_ HO_217002.out); have n1_ := Aside0.mk (Kd.R_at hq_ HO_223002.out); have n2_ := Aside0.mk (Kd.R_at hq_ HO_231002.out); have n3_ := Aside0.mk (Kd.R_at hq_ HO248.out); have n4_ := Aside0.mk (Kd.R_at hq_ HO253.out); have n5_ := Aside0.mk (blk_at hq_ BK202.out); have n6_ := Aside0.mk (blk_at hq_ BK216.out); have n7_ := Aside0.mk (blk_at hq_ BK222.out); have n8_ := Aside0.mk (blk_at hq_ BK230.out); have n9_ := Aside0.mk (blk_at hq_ BK256.out); have n10_ := Aside0.mk (below_at hq_ HB.out); clear hq_ HO_217002 HO_223002 HO_231002 HO248 HO253 BK202 BK216 BK222 BK230 BK256 HB; have HO_217002 := n0_; have HO_223002 := n1_; have HO_231002 := n2_; have HO248 := n3_; have HO253 := n4_; have BK202 := n5_; have BK216 := n6_; have BK222 := n7_; have BK230 := n8_; have BK256 := n9_; have HB := n10_; clear n0_ n1_ n2_ n3_ n4_ n5_ n6_ n7_ n8_ n9_ n10_; (try (obtain ⟨⟨hcyBK202_0, hcyBK202_1, hcyBK202_2⟩, hfyBK202_0, hfyBK202_1, hfyBK202_2⟩ := cells3 BK202.out)); (try (obtain ⟨⟨hcyBK216_0, hcyBK216_1, hcyBK216_2⟩, hfyBK216_0, hfyBK216_1, hfyBK216_2⟩ := cells3 BK216.out)); (try (obtain ⟨⟨hcyBK222_0, hcyBK222_1, hcyBK222_2⟩, hfyBK222_0, hfyBK222_1, hfyBK222_2⟩ := cells3 BK222.out)); (try (obtain ⟨⟨hcyBK230_0, hcyBK230_1, hcyBK230_2⟩, hfyBK230_0, hfyBK230_1, hfyBK230_2⟩ := cells3 BK230.out)); (try (obtain ⟨⟨hcyBK256_0, hcyBK256_1, hcyBK256_2⟩, hfyBK256_0, hfyBK256_1, hfyBK256_2⟩ := cells3 BK256.out)))); refine store_event (t := 63) (p := 14) (v := ?_) (w1 := (((w3014.setCell ⟨gb256, 0, none⟩ (.int .i64 t249)).setCell ⟨gb256, 1, none⟩ (.int .i64 t250)).setCell ⟨gb256, 2, none⟩ (.slice Ao3020 t251.length co3020))) ?hg ?ho ?hn ?hr ?_; (case ho => rfl); (case hg => rfl); (case hn => rfl); (case hr => first | (go_simp; done) | (go_simp; rfl)); intro w3021 hw; have n0_ : Aside0 (Kd.R k85 85 w3021 w.heap.size (fun k_ => some k_ ≠ (.slice Ao1019 t239.length co1019 : Value).ownBlock ∧ some k_ ≠ (.slice Ao1028 t225.length co1028 : Value).ownBlock ∧ some k_ ≠ (.slice Ao3012 t246.length co3012 : Value).ownBlock ∧ some k_ ≠ (.slice Ao3020 t251.length co3020 : Value).ownBlock) (.slice Ao1011 t211.length co1011) t211) := ⟨(by rw [hw]; exact (by (with_reducible repeat (first | apply Kd.R_alloc | apply Kd.R_drewN | apply Kd.R_drew)); exact Kd.R_mono (Kd.R_far (p := ⟨gb256, 2, none⟩) (Kd.R_far (p := ⟨gb256, 1, none⟩) (Kd.R_far (p := ⟨gb256, 0, none⟩) (Kd.R_types HO_217002.out BK256.out (by decide)) (fun _ hk => hk.2) (.int .i64 t249)) (fun _ hk => hk.2) (.int .i64 t250)) (fun _ hk => hk.2) (.slice Ao3020 t251.length co3020)) (fun _ hk => ⟨hk.1.1.1.1, ⟨hk.1.1.1.2, ⟨hk.1.1.2, hk.1.2⟩⟩⟩)))⟩; have n1_ : Aside0 (Kd.R k85 85 w3021 w.heap.size (fun k_ => some k_ ≠ (.slice Ao1011 t211.length co1011 : Value).ownBlock ∧ some k_ ≠ (.slice Ao1028 t225.length co1028 : Value).ownBlock ∧ some k_ ≠ (.slice Ao3012 t246.length co3012 : Value).ownBlock ∧ some k_ ≠ (.slice Ao3020 t251.length co3020 : Value).ownBlock) (.slice Ao1019 t239.length co1019) t239) := ⟨(by rw [hw]; exact (by (with_reducible repeat (first | apply Kd.R_alloc | apply Kd.R_drewN | apply Kd.R_drew)); exact Kd.R_mono (Kd.R_far (p := ⟨gb256, 2, none⟩) (Kd.R_far (p := ⟨gb256, 1, none⟩) (Kd.R_far (p := ⟨gb256, 0, none⟩) (Kd.R_types HO_223002.out BK256.out (by decide)) (fun _ hk => hk.2) (.int .i64 t249)) (fun _ hk => hk.2) (.int .i64 t250)) (fun _ hk => hk.2) (.slice Ao3020 t251.length co3020)) (fun _ hk => ⟨hk.1.1.1.1, ⟨hk.1.1.1.2, ⟨hk.1.1.2, hk.1.2⟩⟩⟩)))⟩; have n2_ : Aside0 (Kd.R k85 85 w3021 w.heap.size (fun k_ => some k_ ≠ (.slice Ao1011 t211.length co1011 : Value).ownBlock ∧ some k_ ≠ (.slice Ao1019 t239.length co1019 : Value).ownBlock ∧ some k_ ≠ (.slice Ao3012 t246.length co3012 : Value).ownBlock ∧ some k_ ≠ (.slice Ao3020 t251.length co3020 : Value).ownBlock) (.slice Ao1028 t225.length co1028) t242) := ⟨(by rw [hw]; exact (by (with_reducible repeat (first | apply Kd.R_alloc | apply Kd.R_drewN | apply Kd.R_drew)); exact Kd.R_mono (Kd.R_far (p := ⟨gb256, 2, none⟩) (Kd.R_far (p := ⟨gb256, 1, none⟩) (Kd.R_far (p := ⟨gb256, 0, none⟩) (Kd.R_types HO_231002.out BK256.out (by decide)) (fun _ hk => hk.2) (.int .i64 t249)) (fun _ hk => hk.2) (.int .i64 t250)) (fun _ hk => hk.2) (.slice Ao3020 t251.length co3020)) (fun _ hk => ⟨hk.1.1.1.1, ⟨hk.1.1.1.2, ⟨hk.1.1.2, hk.1.2⟩⟩⟩)))⟩; have n3_ : Aside0 (Kd.R k85 85 w3021 w.heap.size (fun k_ => some k_ ≠ (.slice Ao1011 t211.length co1011 : Value).ownBlock ∧ some k_ ≠ (.slice Ao1019 t239.length co1019 : Value).ownBlock ∧ some k_ ≠ (.slice Ao1028 t225.length co1028 : Value).ownBlock ∧ some k_ ≠ (.slice Ao3020 t251.length co3020 : Value).ownBlock) (.slice Ao3012 t246.length co3012) t246) := ⟨(by rw [hw]; exact (by (with_reducible repeat (first | apply Kd.R_alloc | apply Kd.R_drewN | apply Kd.R_drew)); exact Kd.R_mono (Kd.R_far (p := ⟨gb256, 2, none⟩) (Kd.R_far (p := ⟨gb256, 1, none⟩) (Kd.R_far (p := ⟨gb256, 0, none⟩) (Kd.R_types HO248.out BK256.out (by decide)) (fun _ hk => hk.2) (.int .i64 t249)) (fun _ hk => hk.2) (.int .i64 t250)) (fun _ hk => hk.2) (.slice Ao3020 t251.length co3020)) (fun _ hk => ⟨hk.1.1.1.1.2, ⟨hk.1.1.1.2, ⟨hk.1.1.2, hk.1.2⟩⟩⟩)))⟩; have n4_ : Aside0 (Kd.R k85 85 w3021 w.heap.size (fun k_ => some k_ ≠ (.slice Ao1011 t211.length co1011 : Value).ownBlock ∧ some k_ ≠ (.slice Ao1019 t239.length co1019 : Value).ownBlock ∧ some k_ ≠ (.slice Ao1028 t225.length co1028 : Value).ownBlock ∧ some k_ ≠ (.slice Ao3012 t246.length co3012 : Value).ownBlock) (.slice Ao3020 t251.length co3020) t251) := ⟨(by rw [hw]; exact (by (with_reducible repeat (first | apply Kd.R_alloc | apply Kd.R_drewN | apply Kd.R_drew)); exact Kd.R_mono (Kd.R_far (p := ⟨gb256, 2, none⟩) (Kd.R_far (p := ⟨gb256, 1, none⟩) (Kd.R_far (p := ⟨gb256, 0, none⟩) (Kd.R_types HO253.out BK256.out (by decide)) (fun _ hk => hk.2) (.int .i64 t249)) (fun _ hk => hk.2) (.int .i64 t250)) (fun _ hk => hk.2) (.slice Ao3020 t251.length co3020)) (fun _ hk => ⟨hk.1.1.1.1.2, ⟨hk.1.1.1.2, ⟨hk.1.1.2, hk.1.2⟩⟩⟩)))⟩; have n5_ : Aside0 (w3021.heap[gb202]? = some (.cells #[.int .i64 a0_0, .int .i64 a0_1, .slice A0_2 l0_2.length c0_2] 59 (0, 0))) := ⟨(by rw [hw]; exact (by (with_reducible repeat (first | refine blk_drewN ?_ _ | refine blk_drew ?_ | refine blk_alloc ?_ _)); refine blk_far ?_ NB202_256.out _; (with_reducible repeat (first | refine blk_drewN ?_ _ | refine blk_drew ?_ | refine blk_alloc ?_ _)); refine blk_far ?_ NB202_256.out _; (with_reducible repeat (first | refine blk_drewN ?_ _ | refine blk_drew ?_ | refine blk_alloc ?_ _)); refine blk_far ?_ NB202_256.out _; (with_reducible repeat (first | refine blk_drewN ?_ _ | refine blk_drew ?_ | refine blk_alloc ?_ _)); exact BK202.out))⟩; have n6_ : Aside0 (w3021.heap[gb216]? = some (.cells #[.int .i64 t209, .int .i64 t210, .slice Ao1011 t211.length co1011] 63 (0, 0))) := ⟨(by rw [hw]; exact (by (with_reducible repeat (first | refine blk_drewN ?_ _ | refine blk_drew ?_ | refine blk_alloc ?_ _)); refine blk_far ?_ NB216_256.out _; (with_reducible repeat (first | refine blk_drewN ?_ _ | refine blk_drew ?_ | refine blk_alloc ?_ _)); refine blk_far ?_ NB216_256.out _; (with_reducible repeat (first | refine blk_drewN ?_ _ | refine blk_drew ?_ | refine blk_alloc ?_ _)); refine blk_far ?_ NB216_256.out _; (with_reducible repeat (first | refine blk_drewN ?_ _ | refine blk_drew ?_ | refine blk_alloc ?_ _)); exact BK216.out))⟩; have n7_ : Aside0 (w3021.heap[gb222]? = some (.cells #[.int .i64 t217, .int .i64 t218, .slice Ao1019 t239.length co1019] 63 (0, 0))) := ⟨(by rw [hw]; exact (by (with_reducible repeat (first | refine blk_drewN ?_ _ | refine blk_drew ?_ | refine blk_alloc ?_ _)); refine blk_far ?_ NB222_256.out _; (with_reducible repeat (first | refine blk_drewN ?_ _ | refine blk_drew ?_ | refine blk_alloc ?_ _)); refine blk_far ?_ NB222_256.out _; (with_reducible repeat (first | refine blk_drewN ?_ _ | refine blk_drew ?_ | refine blk_alloc ?_ _)); refine blk_far ?_ NB222_256.out _; (with_reducible repeat (first | refine blk_drewN ?_ _ | refine blk_drew ?_ | refine blk_alloc ?_ _)); exact BK222.out))⟩; have n8_ : Aside0 (w3021.heap[gb230]? = some (.cells #[.int .i64 t223, .int .i64 t224, .slice Ao1028 t225.length co1028] 63 (0, 0))) := ⟨(by rw [hw]; exact (by (with_reducible repeat (first | refine blk_drewN ?_ _ | refine blk_drew ?_ | refine blk_alloc ?_ _)); refine blk_far ?_ NB230_256.out _; (with_reducible repeat (first | refine blk_drewN ?_ _ | refine blk_drew ?_ | refine blk_alloc ?_ _)); refine blk_far ?_ NB230_256.out _; (with_reducible repeat (first | refine blk_drewN ?_ _ | refine blk_drew ?_ | refine blk_alloc ?_ _)); refine blk_far ?_ NB230_256.out _; (with_reducible repeat (first | refine blk_drewN ?_ _ | refine blk_drew ?_ | refine blk_alloc ?_ _)); exact BK230.out))⟩; have n9_ : Aside0 (w3021.heap[gb256]? = some (.cells #[.int .i64 t249, .int .i64 t250, .slice Ao3020 t251.length co3020] 63 (0, 0))) := ⟨(by rw [hw]; exact (by (with_reducible repeat (first | refine blk_drewN ?_ _ | refine blk_drew ?_ | refine blk_alloc ?_ _)); refine blk_put (cs := #[.int .i64 t249, .int .i64 t250, .slice none 0 0]) ?_ 2 _ rfl; (with_reducible repeat (first | refine blk_drewN ?_ _ | refine blk_drew ?_ | refine blk_alloc ?_ _)); refine blk_put (cs := #[.int .i64 t249, .int .i64 0, .slice none 0 0]) ?_ 1 _ rfl; (with_reducible repeat (first | refine blk_drewN ?_ _ | refine blk_drew ?_ | refine blk_alloc ?_ _)); refine blk_put (cs := #[.int .i64 0, .int .i64 0, .slice none 0 0]) ?_ 0 _ rfl; (with_reducible repeat (first | refine blk_drewN ?_ _ | refine blk_drew ?_ | refine blk_alloc ?_ _)); exact BK256.out))⟩; have n10_ : Aside0 (Below w.heap.size w w3021) := ⟨(by rw [hw]; exact wB)⟩; clear hw; clear HO_217002; clear HO_223002; clear HO_231002; clear HO248; clear HO253; clear BK202; clear BK216; clear BK222; clear BK230; clear BK256; clear HB; have HO_217002 := n0_; have HO_223002 := n1_; have HO_231002 := n2_; have HO248 := n3_; have HO253 := n4_; have BK202 := n5_; have BK216 := n6_; have BK222 := n7_; have BK230 := n8_; have BK256 := n9_; have HB := n10_; clear n0_ n1_ n2_ n3_ n4_ n5_ n6_ n7_ n8_ n9_ n10_))
 (try simp only [Act.put, List.setIfInBounds_toArray, List.set_cons_zero, List.set_cons_succ])
 go_cut [108] (fun v108 wc => ∃ (kq : Nat) (x108_2020 : Bool), v108 = .bool x108_2020 ∧ Aside0 (laws_FnExactBoardLose.j2 kq t241 x108_2020 t223 t224 t242 = some r) ∧ Aside0 (kq ≤ kj1037) ∧ Aside0 (Kd.R k85 85 wc w.heap.size (fun k_ => some k_ ≠ ((.slice Ao1019 t239.length co1019) : Value).ownBlock ∧ some k_ ≠ ((.slice Ao1028 t225.length co1028) : Value).ownBlock ∧ some k_ ≠ ((.slice Ao3020 t251.length co3020) : Value).ownBlock) (.slice Ao1011 t211.length co1011) t211) ∧ Aside0 (Kd.R k85 85 wc w.heap.size (fun k_ => some k_ ≠ ((.slice Ao1011 t211.length co1011) : Value).ownBlock ∧ some k_ ≠ ((.slice Ao1028 t225.length co1028) : Value).ownBlock ∧ some k_ ≠ ((.slice Ao3020 t251.length co3020) : Value).ownBlock) (.slice Ao1019 t239.length co1019) t239) ∧ Aside0 (Kd.R k85 85 wc w.heap.size (fun k_ => some k_ ≠ ((.slice Ao1011 t211.length co1011) : Value).ownBlock ∧ some k_ ≠ ((.slice Ao1019 t239.length co1019) : Value).ownBlock ∧ some k_ ≠ ((.slice Ao3020 t251.length co3020) : Value).ownBlock) (.slice Ao1028 t225.length co1028) t242) ∧ Aside0 (Kd.R k85 85 wc w.heap.size (fun k_ => some k_ ≠ ((.slice Ao1011 t211.length co1011) : Value).ownBlock ∧ some k_ ≠ ((.slice Ao1019 t239.length co1019) : Value).ownBlock ∧ some k_ ≠ ((.slice Ao1028 t225.length co1028) : Value).ownBlock) (.slice Ao3020 t251.length co3020) t251) ∧ Aside0 (wc.heap[gb202]? = some (.cells #[.int .i64 a0_0, .int .i64 a0_1, (.slice A0_2 l0_2.length c0_2)] 59 (0, 0))) ∧ Aside0 (wc.heap[gb216]? = some (.cells #[.int .i64 t209, .int .i64 t210, (.slice Ao1011 t211.length co1011)] 63 (0, 0))) ∧ Aside0 (wc.heap[gb222]? = some (.cells #[.int .i64 t217, .int .i64 t218, (.slice Ao1019 t239.length co1019)] 63 (0, 0))) ∧ Aside0 (wc.heap[gb230]? = some (.cells #[.int .i64 t223, .int .i64 t224, (.slice Ao1028 t225.length co1028)] 63 (0, 0))) ∧ Aside0 (wc.heap[gb256]? = some (.cells #[.int .i64 t249, .int .i64 t250, (.slice Ao3020 t251.length co3020)] 63 (0, 0))) ∧ Aside0 (Below w.heap.size w wc))
 case first => (
 have H := HC2021.out
 clear HC2021
 replace H := Option.bind_eq_some_iff.mp H
 obtain ⟨t257, A30220, H⟩ := H
 replace H : (if t257 = true then (if t254 = t214 then (laws_FnExactBoardLose.j2 kj1037 t241 (t255 != t215) t223 t224 t242) else (laws_FnExactBoardLose.j2 kj1037 t241 true t223 t224 t242)) else (laws_FnExactBoardLose.j2 kj1037 t241 true t223 t224 t242)) = some r := H
 have A3022 := Aside0.mk A30220
 clear A30220
 by_cases c3023 : t257 = true
 subst c3023
 have H1 : (if t254 = t214 then (laws_FnExactBoardLose.j2 kj1037 t241 (t255 != t215) t223 t224 t242) else (laws_FnExactBoardLose.j2 kj1037 t241 true t223 t224 t242)) = some r := by rw [if_pos rfl] at H; exact H
 clear H
 have H := H1
 clear H1
 by_cases c3024 : t254 = t214
 rw [if_pos c3024] at H
 have c3024b0 : (t254 == t214) = true := beq_iff_eq.mpr c3024
 have c3024b1 : (t254 != t214) = false := bne_eq_false_iff_eq.mpr c3024
 clear c3024
 (first | rw [c3024b0] | (simp only [i64_w, i32_w]; rw [c3024b0]) | skip)
 have H' := Aside0.mk H
 clear H
 rotate_left
 rw [if_neg c3024] at H
 have c3024b0 : (t254 == t214) = false := beq_eq_false_iff_ne.mpr c3024
 have c3024b1 : (t254 != t214) = true := bne_iff_ne.mpr c3024
 (first | rw [c3024b0] | (simp only [i64_w, i32_w]; rw [c3024b0]) | skip)
 have H' := Aside0.mk H
 clear H
 rotate_left
 replace c3023 := Bool.eq_false_iff.mpr c3023
 subst c3023
 have H1 : (laws_FnExactBoardLose.j2 kj1037 t241 true t223 t224 t242) = some r := by rw [if_neg (show ¬ (false = true) by decide)] at H; exact H
 clear H
 have H := H1
 clear H1
 have H' := Aside0.mk H
 clear H
 rotate_left
 all_goals (
 have hnb4001 := NB256_202.out
 have hnc4001 := NB202_256.out
 have hnb4002 := NB256_216.out
 have hnc4002 := NB216_256.out
 have hnb4003 := NB256_222.out
 have hnc4003 := NB222_256.out
 have hnb4004 := NB256_230.out
 have hnc4004 := NB230_256.out
 obtain ⟨⟨hcz4005_0, hcz4005_1, hcz4005_2⟩, hfz4005_0, hfz4005_1, hfz4005_2⟩ := cells3 BK256.out
 have hnb4006 := NB216_202.out
 have hnc4006 := NB202_216.out
 have hnb4007 := NB216_222.out
 have hnc4007 := NB222_216.out
 have hnb4008 := NB216_230.out
 have hnc4008 := NB230_216.out
 obtain ⟨⟨hcz4009_0, hcz4009_1, hcz4009_2⟩, hfz4009_0, hfz4009_1, hfz4009_2⟩ := cells3 BK216.out
 go_wp2_with (first | ((with_reducible refine gate_callee (f := 40) rfl ?_); refine goesL_ (some 97) rfl rfl Try.func40 (by kernel_rfl) rfl #[.agg #[.int .i64 t249, .int .i64 t250, .slice Ao3020 t251.length co3020], .agg #[.int .i64 t209, .int .i64 t210, .slice Ao1011 t211.length co1011]] rfl wT ?_; (with_reducible refine (laws_eqBoard.calls kj1037 t249 t250 _ _ t251 t209 t210 _ _ t211 _ _ ?side1 ?side2 ?side3 ?side4 A3022.out).mono ?_); (case side1 => exact Ch HO253); (case side2 => exact (Kd.R_reads' HO253.out).2.1); (case side3 => exact Ch HO_217002); (case side4 => exact (Kd.R_reads' HO_217002.out).2.1); rintro e w4010 ⟨rfl, hb⟩; refine ⟨_, rfl, ?_⟩; have n0_ := Aside0.mk (Kd.R_below (Rh HO_217002) hb); have n1_ := Aside0.mk (Kd.R_below (Rh HO_223002) hb); have n2_ := Aside0.mk (Kd.R_below (Rh HO_231002) hb); have n3_ := Aside0.mk (Kd.R_below (Rh HO248) hb); have n4_ := Aside0.mk (Kd.R_below (Rh HO253) hb); have n5_ := Aside0.mk (blk_below (Bh BK202) hb); have n6_ := Aside0.mk (blk_below (Bh BK216) hb); have n7_ := Aside0.mk (blk_below (Bh BK222) hb); have n8_ := Aside0.mk (blk_below (Bh BK230) hb); have n9_ := Aside0.mk (blk_below (Bh BK256) hb); have n10_ := Aside0.mk (below_step wB hb); clear HO_217002; clear HO_223002; clear HO_231002; clear HO248; clear HO253; clear BK202; clear BK216; clear BK222; clear BK230; clear BK256; clear HB; have HO_217002 := n0_; have HO_223002 := n1_; have HO_231002 := n2_; have HO248 := n3_; have HO253 := n4_; have BK202 := n5_; have BK216 := n6_; have BK222 := n7_; have BK230 := n8_; have BK256 := n9_; have HB := n10_; clear n0_ n1_ n2_ n3_ n4_ n5_ n6_ n7_ n8_ n9_ n10_; (try clear hb); (try clear hb2); (try clear hk); (try clear hi)))
 go_meet
 )
 {
 case rel => exact ⟨_, ((t255 != t215)), (by first | rfl | (simp; done) | (simp [*]; done)), H', ⟨by have := HJ7.out; have := HJ1037.out; first | omega | exact Nat.le_refl _⟩, ⟨by (try simp only [hl223002_1037]); (with_reducible repeat (first | apply Kd.R_alloc | apply Kd.R_drewN | apply Kd.R_drew)); exact Kd.R_mono HO_217002.out (fun _ hk => ⟨hk.1, ⟨hk.2.1, hk.2.2.2⟩⟩)⟩, ⟨by (try simp only [hl223002_1037]); (with_reducible repeat (first | apply Kd.R_alloc | apply Kd.R_drewN | apply Kd.R_drew)); exact Kd.R_mono HO_223002.out (fun _ hk => ⟨hk.1, ⟨hk.2.1, hk.2.2.2⟩⟩)⟩, ⟨by (try simp only [hl223002_1037]); (with_reducible repeat (first | apply Kd.R_alloc | apply Kd.R_drewN | apply Kd.R_drew)); exact Kd.R_mono HO_231002.out (fun _ hk => ⟨hk.1, ⟨hk.2.1, hk.2.2.2⟩⟩)⟩, ⟨by (try simp only [hl223002_1037]); (with_reducible repeat (first | apply Kd.R_alloc | apply Kd.R_drewN | apply Kd.R_drew)); exact Kd.R_mono HO253.out (fun _ hk => ⟨hk.1, ⟨hk.2.1, hk.2.2.1⟩⟩)⟩, ⟨by (try simp only [hl223002_1037]); (with_reducible repeat (first | refine blk_drewN ?_ _ | refine blk_drew ?_ | refine blk_alloc ?_ _)); exact BK202.out⟩, ⟨by (try simp only [hl223002_1037]); (with_reducible repeat (first | refine blk_drewN ?_ _ | refine blk_drew ?_ | refine blk_alloc ?_ _)); exact BK216.out⟩, ⟨by (try simp only [hl223002_1037]); (with_reducible repeat (first | refine blk_drewN ?_ _ | refine blk_drew ?_ | refine blk_alloc ?_ _)); exact BK222.out⟩, ⟨by (try simp only [hl223002_1037]); (with_reducible repeat (first | refine blk_drewN ?_ _ | refine blk_drew ?_ | refine blk_alloc ?_ _)); exact BK230.out⟩, ⟨by (try simp only [hl223002_1037]); (with_reducible repeat (first | refine blk_drewN ?_ _ | refine blk_drew ?_ | refine blk_alloc ?_ _)); exact BK256.out⟩, ⟨wB⟩⟩
 }
 all_goals (
 case rel => exact ⟨_, (true), (by first | rfl | (simp; done) | (simp [*]; done)), H', ⟨by have := HJ7.out; have := HJ1037.out; first | omega | exact Nat.le_refl _⟩, ⟨by (try simp only [hl223002_1037]); (with_reducible repeat (first | apply Kd.R_alloc | apply Kd.R_drewN | apply Kd.R_drew)); exact Kd.R_mono HO_217002.out (fun _ hk => ⟨hk.1, ⟨hk.2.1, hk.2.2.2⟩⟩)⟩, ⟨by (try simp only [hl223002_1037]); (with_reducible repeat (first | apply Kd.R_alloc | apply Kd.R_drewN | apply Kd.R_drew)); exact Kd.R_mono HO_223002.out (fun _ hk => ⟨hk.1, ⟨hk.2.1, hk.2.2.2⟩⟩)⟩, ⟨by (try simp only [hl223002_1037]); (with_reducible repeat (first | apply Kd.R_alloc | apply Kd.R_drewN | apply Kd.R_drew)); exact Kd.R_mono HO_231002.out (fun _ hk => ⟨hk.1, ⟨hk.2.1, hk.2.2.2⟩⟩)⟩, ⟨by (try simp only [hl223002_1037]); (with_reducible repeat (first | apply Kd.R_alloc | apply Kd.R_drewN | apply Kd.R_drew)); exact Kd.R_mono HO253.out (fun _ hk => ⟨hk.1, ⟨hk.2.1, hk.2.2.1⟩⟩)⟩, ⟨by (try simp only [hl223002_1037]); (with_reducible repeat (first | refine blk_drewN ?_ _ | refine blk_drew ?_ | refine blk_alloc ?_ _)); exact BK202.out⟩, ⟨by (try simp only [hl223002_1037]); (with_reducible repeat (first | refine blk_drewN ?_ _ | refine blk_drew ?_ | refine blk_alloc ?_ _)); exact BK216.out⟩, ⟨by (try simp only [hl223002_1037]); (with_reducible repeat (first | refine blk_drewN ?_ _ | refine blk_drew ?_ | refine blk_alloc ?_ _)); exact BK222.out⟩, ⟨by (try simp only [hl223002_1037]); (with_reducible repeat (first | refine blk_drewN ?_ _ | refine blk_drew ?_ | refine blk_alloc ?_ _)); exact BK230.out⟩, ⟨by (try simp only [hl223002_1037]); (with_reducible repeat (first | refine blk_drewN ?_ _ | refine blk_drew ?_ | refine blk_alloc ?_ _)); exact BK256.out⟩, ⟨wB⟩⟩
 )
 )
 case rest => (
 clear HC2021
 try clear c0
 try clear c3
 try clear c3b0
 try clear c1031
 try clear c1032
 try clear c1032b0
 try clear c1032b1
 try clear c1033
 try clear c1036
 try clear c2010
 try clear c2010b0
 try clear c2012
 try clear c2013
 try clear c2013b0
 try clear c2013b1
 try clear c2014
 try clear c2017
 try clear c2017b0
 try clear c2018
 try clear c2018b0
 try clear c2018b1
 try clear c3023
 try clear c3024
 try clear c3024b0
 try clear c3024b1
 try clear hcz1002_0 hcz1002_1 hcz1002_2 hfz1002_0 hfz1002_1 hfz1002_2
 try clear hcz1004_0 hcz1004_1 hcz1004_2 hfz1004_0 hfz1004_1 hfz1004_2
 try clear hcz1010_0 hcz1010_1 hcz1010_2 hfz1010_0 hfz1010_1 hfz1010_2
 try clear hcz1013_0 hcz1013_1 hcz1013_2 hfz1013_0 hfz1013_1 hfz1013_2
 try clear hcz1018_0 hcz1018_1 hcz1018_2 hfz1018_0 hfz1018_1 hfz1018_2
 try clear hcz1021_0 hcz1021_1 hcz1021_2 hfz1021_0 hfz1021_1 hfz1021_2
 try clear hcz1027_0 hcz1027_1 hcz1027_2 hfz1027_0 hfz1027_1 hfz1027_2
 try clear hcz2004_0 hcz2004_1 hcz2004_2 hfz2004_0 hfz2004_1 hfz2004_2
 try clear hcz2007_0 hcz2007_1 hcz2007_2 hfz2007_0 hfz2007_1 hfz2007_2
 try clear hcz2008_0 hcz2008_1 hcz2008_2 hfz2008_0 hfz2008_1 hfz2008_2
 try clear hcz3004_0 hcz3004_1 hcz3004_2 hfz3004_0 hfz3004_1 hfz3004_2
 try clear hcz3006_0 hcz3006_1 hcz3006_2 hfz3006_0 hfz3006_1 hfz3006_2
 try clear hcz3007_0 hcz3007_1 hcz3007_2 hfz3007_0 hfz3007_1 hfz3007_2
 try clear hcz3010_0 hcz3010_1 hcz3010_2 hfz3010_0 hfz3010_1 hfz3010_2
 try clear hcz3019_0 hcz3019_1 hcz3019_2 hfz3019_0 hfz3019_1 hfz3019_2
 try clear hcz4005_0 hcz4005_1 hcz4005_2 hfz4005_0 hfz4005_1 hfz4005_2
 try clear hcz4009_0 hcz4009_1 hcz4009_2 hfz4009_0 hfz4009_1 hfz4009_2
 obtain ⟨kq, x108_2020, rfl, HA, HJ2020, HO_217002, HO_223002, HO_231002, HO_257002, BK202, BK216, BK222, BK230, BK256, HB⟩ := hcut
 have hl231002_2020 := (Kd.R_reads' HO_231002.out).1
 rw [hl231002_2020] at HO_231002
 (try simp only [hl231002_2020])
 (try simp only [hl231002_2020] at BK202)
 (try simp only [hl231002_2020] at BK216)
 (try simp only [hl231002_2020] at BK222)
 (try simp only [hl231002_2020] at BK230)
 (try simp only [hl231002_2020] at BK256)
 (try simp only [hl231002_2020] at HO_217002)
 (try simp only [hl231002_2020] at HO_223002)
 (try simp only [hl231002_2020] at HO_257002)
 cases kq with
 | zero => exact absurd HA.out (by simp [laws_FnExactBoardLose.j2])
 | succ kj2020 => {
 have H := HA.out
 clear HA
 simp only [laws_FnExactBoardLose.j2] at H
 by_cases c3025 : x108_2020 = true
 subst c3025
 have H1 : (some false) = some r := by rw [if_pos rfl] at H; exact H
 clear H
 have H := H1
 clear H1
 obtain rfl := Option.some.inj H
 rotate_left
 replace c3025 := Bool.eq_false_iff.mpr c3025
 subst c3025
 have H1 : ((laws_heldBoard.f kj2020 t223 t224 t242 1).bind fun t258 => (if t258 < 0 then (some false) else (if t258 = t241 then (some true) else (some false)))) = some r := by rw [if_neg (show ¬ (false = true) by decide)] at H; exact H
 clear H
 have H := H1
 clear H1
 replace H := Option.bind_eq_some_iff.mp H
 obtain ⟨t258, A30260, H⟩ := H
 replace H : (if t258 < 0 then (some false) else (if t258 = t241 then (some true) else (some false))) = some r := H
 have A3026 := Aside0.mk A30260
 clear A30260
 by_cases c3027 : t258 < 0
 rw [if_pos c3027] at H
 have c3027b0 : decide (t258 < 0) = true := decide_eq_true c3027
 clear c3027
 obtain rfl := Option.some.inj H
 rotate_left
 rw [if_neg c3027] at H
 have c3027b0 : decide (t258 < 0) = false := decide_eq_false c3027
 clear c3027
 by_cases c3028 : t258 = t241
 rw [if_pos c3028] at H
 have c3028b0 : (t258 == t241) = true := beq_iff_eq.mpr c3028
 have c3028b1 : (t258 != t241) = false := bne_eq_false_iff_eq.mpr c3028
 clear c3028
 obtain rfl := Option.some.inj H
 rotate_left
 rw [if_neg c3028] at H
 have c3028b0 : (t258 == t241) = false := beq_eq_false_iff_ne.mpr c3028
 have c3028b1 : (t258 != t241) = true := bne_iff_ne.mpr c3028
 obtain rfl := Option.some.inj H
 rotate_left
 {
 go_wp2
 go_ret
 exact ⟨by first | rfl | (simp [errW_none, errW_some] <;> rfl) | (simp [*, errW_none, errW_some] <;> rfl), wB⟩
 }
 all_goals (
 have hnb4001 := NB230_202.out
 have hnc4001 := NB202_230.out
 have hnb4002 := NB230_216.out
 have hnc4002 := NB216_230.out
 have hnb4003 := NB230_222.out
 have hnc4003 := NB222_230.out
 have hnb4004 := NB230_256.out
 have hnc4004 := NB256_230.out
 obtain ⟨⟨hcz4005_0, hcz4005_1, hcz4005_2⟩, hfz4005_0, hfz4005_1, hfz4005_2⟩ := cells3 BK230.out
 go_wp2_with (first | ((with_reducible refine gate_callee (f := 42) rfl ?_); refine goesL_ (some 111) rfl rfl Try.func42 (by kernel_rfl) rfl #[.agg #[.int .i64 t223, .int .i64 t224, .slice Ao1028 t242.length co1028], .int .i64 1] rfl wT ?_; (with_reducible refine (laws_heldBoard.calls kj2020 t223 t224 _ _ t242 1 t258 _ ?side1 ?side2 A3026.out).mono ?_); (case side1 => exact Ch HO_231002); (case side2 => exact (Kd.R_reads' HO_231002.out).2.1); rintro e w4006 ⟨rfl, hb⟩; refine ⟨_, rfl, ?_⟩; have n0_ := Aside0.mk (Kd.R_below (Rh HO_217002) hb); have n1_ := Aside0.mk (Kd.R_below (Rh HO_223002) hb); have n2_ := Aside0.mk (Kd.R_below (Rh HO_231002) hb); have n3_ := Aside0.mk (Kd.R_below (Rh HO_257002) hb); have n4_ := Aside0.mk (blk_below (Bh BK202) hb); have n5_ := Aside0.mk (blk_below (Bh BK216) hb); have n6_ := Aside0.mk (blk_below (Bh BK222) hb); have n7_ := Aside0.mk (blk_below (Bh BK230) hb); have n8_ := Aside0.mk (blk_below (Bh BK256) hb); have n9_ := Aside0.mk (below_step wB hb); clear HO_217002; clear HO_223002; clear HO_231002; clear HO_257002; clear BK202; clear BK216; clear BK222; clear BK230; clear BK256; clear HB; have HO_217002 := n0_; have HO_223002 := n1_; have HO_231002 := n2_; have HO_257002 := n3_; have BK202 := n4_; have BK216 := n5_; have BK222 := n6_; have BK230 := n7_; have BK256 := n8_; have HB := n9_; clear n0_ n1_ n2_ n3_ n4_ n5_ n6_ n7_ n8_ n9_; (try clear hb); (try clear hb2); (try clear hk); (try clear hi)))
 go_ret
 exact ⟨by first | rfl | (simp [errW_none, errW_some] <;> rfl) | (simp [*, errW_none, errW_some] <;> rfl), wB⟩
 )
 }
 )
 }
 {
 go_wp2_with (first | ((with_reducible refine gate_callee (f := 41) rfl ?_); refine goesL_ (some 79) rfl rfl Try.func41 (by kernel_rfl) rfl #[.agg #[.int .i64 t223, .int .i64 t224, .slice Ao1028 t225.length co1028], .int .i64 1] rfl wT ?_; (with_reducible refine (laws_markBoard.calls kj1037 t223 t224 (fun k_ => some k_ = (.slice Ao1028 t225.length co1028 : Value).ownBlock) (.slice Ao1028 t225.length co1028) t225 1 t241 t242 w _ ?side1 ?side2 A2015.out).mono ?_); (case side1 => repeat (first | (with_reducible first | exact HB.out | apply below_alloc | apply pw_below_drewN | apply below_drew1 | refine below_set ?_ GE202.out | refine below_set ?_ GE216.out | refine below_set ?_ GE222.out | refine below_set ?_ GE230.out) | exact HB.out)); (case side2 => exact Kd.R_tight rfl HO_231002.out); rintro e w3005 ⟨rfl, hy0, hb, hkp⟩; refine ⟨_, rfl, ?_⟩; have n0_ := Aside0.mk (Kd.R_mono (ok' := fun k_ => some k_ ≠ (.slice Ao1019 t239.length co1019 : Value).ownBlock ∧ some k_ ≠ (.slice Ao1028 t225.length co1028 : Value).ownBlock) (Kd.R_keptB (HO_217002.out) hkp (fun k_ hk_ hs_ => (hk_.2) hs_)) (fun k_ hk_ => ⟨hk_.1.1, hk_.1.2⟩)); have n1_ := Aside0.mk (Kd.R_mono (ok' := fun k_ => some k_ ≠ (.slice Ao1011 t211.length co1011 : Value).ownBlock ∧ some k_ ≠ (.slice Ao1028 t225.length co1028 : Value).ownBlock) (Kd.R_keptB (HO_223002.out) hkp (fun k_ hk_ hs_ => (hk_.2) hs_)) (fun k_ hk_ => ⟨hk_.1.1, hk_.1.2⟩)); have n2_ := Aside0.mk (Kd.R_reok rfl hy0 (fun k_ e_ => HO_231002.out.1 k_ e_)); have n3_ := Aside0.mk (blk_kept (Bh BK202) hkp (fun hs_ => (fun e_ => (Kd.R_ne HO_231002.out BK202.out (by decide)) e_) hs_)); have n4_ := Aside0.mk (blk_kept (Bh BK216) hkp (fun hs_ => (fun e_ => (Kd.R_ne HO_231002.out BK216.out (by decide)) e_) hs_)); have n5_ := Aside0.mk (blk_kept (Bh BK222) hkp (fun hs_ => (fun e_ => (Kd.R_ne HO_231002.out BK222.out (by decide)) e_) hs_)); have n6_ := Aside0.mk (blk_kept (Bh BK230) hkp (fun hs_ => (fun e_ => (Kd.R_ne HO_231002.out BK230.out (by decide)) e_) hs_)); have n7_ := Aside0.mk (hb); clear HO_217002; clear HO_223002; clear HO_231002; clear BK202; clear BK216; clear BK222; clear BK230; clear HB; have HO_217002 := n0_; have HO_223002 := n1_; have HO_231002 := n2_; have BK202 := n3_; have BK216 := n4_; have BK222 := n5_; have BK230 := n6_; have HB := n7_; clear n0_ n1_ n2_ n3_ n4_ n5_ n6_ n7_; (try clear hb); (try clear hkp); (try clear hy0); obtain ⟨⟨hcz3006_0, hcz3006_1, hcz3006_2⟩, hfz3006_0, hfz3006_1, hfz3006_2⟩ := cells3 BK230.out) | ((with_reducible refine gate_callee (f := 42) rfl ?_); refine goesL_ (some 82) rfl rfl Try.func42 (by kernel_rfl) rfl #[.agg #[.int .i64 t223, .int .i64 t224, .slice Ao1028 t242.length co1028], .int .i64 1] rfl (by (try simp only [List.map_toArray, List.map_cons, List.map_nil]); first | done | (rw [show t242.length = t225.length from (Kd.R_reads' HO_231002.out).1.symm] <;> rfl) | rfl | (simp only [List.length_drop, List.length_take]; rfl)) ?_; (with_reducible refine (laws_heldBoard.calls kj1037 t223 t224 _ _ t242 1 t243 _ ?side1 ?side2 A2016.out).mono ?_); (case side1 => exact Ch HO_231002); (case side2 => rw [show t242.length = t225.length from (Kd.R_reads' HO_231002.out).1.symm]; exact (Kd.R_reads' HO_231002.out).2.1); rintro e w3007 ⟨rfl, hb⟩; refine ⟨_, rfl, ?_⟩; have n0_ := Aside0.mk (Kd.R_below (Rh HO_217002) hb); have n1_ := Aside0.mk (Kd.R_below (Rh HO_223002) hb); have n2_ := Aside0.mk (Kd.R_below (Rh HO_231002) hb); have n3_ := Aside0.mk (blk_below (Bh BK202) hb); have n4_ := Aside0.mk (blk_below (Bh BK216) hb); have n5_ := Aside0.mk (blk_below (Bh BK222) hb); have n6_ := Aside0.mk (blk_below (Bh BK230) hb); have n7_ := Aside0.mk (below_step wB hb); clear HO_217002; clear HO_223002; clear HO_231002; clear BK202; clear BK216; clear BK222; clear BK230; clear HB; have HO_217002 := n0_; have HO_223002 := n1_; have HO_231002 := n2_; have BK202 := n3_; have BK216 := n4_; have BK222 := n5_; have BK230 := n6_; have HB := n7_; clear n0_ n1_ n2_ n3_ n4_ n5_ n6_ n7_; (try clear hb); (try clear hb2); (try clear hk); (try clear hi)))
 go_ret
 exact ⟨by first | rfl | (simp [errW_none, errW_some] <;> rfl) | (simp [*, errW_none, errW_some] <;> rfl), wB⟩
 }
 }
 )
 }
 {
 try go_wp2
 go_ret
 exact ⟨by first | rfl | (simp [errW_none, errW_some] <;> rfl) | (simp [*, errW_none, errW_some] <;> rfl), wB⟩
 }
 }
 )
 }

end Go.Proofs.Ytkfbcmbemihbnaa.PFnExactBoardLose
