-- Written for this claim by a program of this session (wip/mkprint.py: the print, turned at a few places). Not trusted: Lean checks it.
import Derived.Test.YtkfbcmbemihbnaaPFnExactBoardTimeoutx0
import Derived.Test.YtkfbcmbemihbnaaPFnExactBoardTimeoutx1
import Derived.Test.YtkfbcmbemihbnaaPFnExactBoardTimeoutx2
import Derived.Test.YtkfbcmbemihbnaaPFnExactBoardTimeoutx3
import Derived.Test.YtkfbcmbemihbnaaPFnExactBoardTimeoutx4
namespace Go.Proofs.Ytkfbcmbemihbnaa.PFnExactBoardTimeout
open Go.RowKit Go.Proofs.YtkfbcmbemihbnaaW.PrintWords Go.Proofs.YtkfbcmbemihbnaaW.PrintLast Go.Proofs.YtkfbcmbemihbnaaW.PrintMore
attribute [local go_sem] max2_int min2_int max_two min_two max_three min_three max_four min_four   -- for this text's walks alone
set_option linter.unusedVariables false
set_option linter.unusedSimpArgs false

/-! ### laws_FnExactBoardTimeout: function 7 -/
mutual
def laws_FnExactBoardTimeout.j0 : Nat → Int → Int → Bool → Int → Int → List (S168) → Int → Int → List (S85) → Int → Int → List (S85) → Int → Int → List (S85) → Option (Bool)
  | 0, _, _, _, _, _, _, _, _, _, _, _, _, _, _, _ => none
  | k + 1, x5, x8, x40, x199000, x199001, x199002, x212000, x212001, x212002, x218000, x218001, x218002, x225000, x225001, x225002 => if x40 = true then (some false) else ((laws_toBoard.f k x199000 x199001 x199002).bind fun bt226 => ((laws_eqBoard.f k x218000 x218001 x218002 bt226.1 bt226.2.1 bt226.2.2).bind fun t231 => (if t231 = true then ((laws_markBoard.f k x218000 x218001 x218002 1).bind fun bt232 => (if bt232.1 < 0 then (laws_FnExactBoardTimeout.j1 k x5 true x199000 x199001 x199002 x212000 x212001 x212002 x225000 x225001 x225002) else ((laws_eqBoard.f k x225000 x225001 x225002 x212000 x212001 x212002).bind fun t234 => (if t234 = true then (laws_FnExactBoardTimeout.j1 k x5 (x8 != x5) x199000 x199001 x199002 x212000 x212001 x212002 x225000 x225001 x225002) else (laws_FnExactBoardTimeout.j1 k x5 true x199000 x199001 x199002 x212000 x212001 x212002 x225000 x225001 x225002))))) else (some false))))
def laws_FnExactBoardTimeout.j1 : Nat → Int → Bool → Int → Int → List (S168) → Int → Int → List (S85) → Int → Int → List (S85) → Option (Bool)
  | 0, _, _, _, _, _, _, _, _, _, _, _ => none
  | k + 1, x5, x61, x199000, x199001, x199002, x212000, x212001, x212002, x225000, x225001, x225002 => if x61 = true then (some false) else ((laws_markBoard.f k x225000 x225001 x225002 1).bind fun bt235 => ((laws_heldBoard.f k x225000 x225001 bt235.2 1).bind fun t237 => (if t237 < 0 then (some false) else (if t237 = bt235.1 then ((laws_toBoard.f k x199000 x199001 x199002).bind fun bt238 => ((impl_BoardTimeout.f k bt238.1 bt238.2.1 bt238.2.2).bind fun bt243 => ((laws_eqBoard.f k bt243.1 bt243.2.1 bt243.2.2.1 x212000 x212001 x212002).bind fun t250 => (if t250 = true then (laws_FnExactBoardTimeout.j2 k bt235.1 (bt243.2.2.2 != x5) x225000 x225001 bt235.2) else (laws_FnExactBoardTimeout.j2 k bt235.1 true x225000 x225001 bt235.2))))) else (some false)))))
def laws_FnExactBoardTimeout.j2 : Nat → Int → Bool → Int → Int → List (S85) → Option (Bool)
  | 0, _, _, _, _, _ => none
  | k + 1, x10, x87, x225000, x225001, x225002 => if x87 = true then (some false) else ((laws_heldBoard.f k x225000 x225001 x225002 1).bind fun t251 => (if t251 < 0 then (some false) else (if t251 = x10 then (some true) else (some false))))
end
def laws_FnExactBoardTimeout.f (k : Nat) (a0_0 : Int) (a0_1 : Int) (l0_2 : List (S168)) : Option (Bool) := (laws_szBoard.f a0_0 a0_1 l0_2 1048576).bind fun t199 => (if t199 < 0 then (some true) else ((laws_toBoard.f k a0_0 a0_1 l0_2).bind fun bt200 => ((spec_BoardTimeout.f k bt200.1 bt200.2.1 bt200.2.2).bind fun bt205 => ((laws_toBoard.f k a0_0 a0_1 l0_2).bind fun bt212 => ((impl_BoardTimeout.f k bt212.1 bt212.2.1 bt212.2.2).bind fun bt218 => ((laws_eqBoard.f k bt218.1 bt218.2.1 bt218.2.2.1 bt205.1 bt205.2.1 bt205.2.2.1).bind fun t225 => (if t225 = true then (laws_FnExactBoardTimeout.j0 k bt205.2.2.2 bt218.2.2.2 (bt218.2.2.2 != bt205.2.2.2) a0_0 a0_1 l0_2 bt205.1 bt205.2.1 bt205.2.2.1 bt212.1 bt212.2.1 bt212.2.2 bt218.1 bt218.2.1 bt218.2.2.1) else (laws_FnExactBoardTimeout.j0 k bt205.2.2.2 bt218.2.2.2 true a0_0 a0_1 l0_2 bt205.1 bt205.2.1 bt205.2.2.1 bt212.1 bt212.2.1 bt212.2.2 bt218.1 bt218.2.1 bt218.2.2.1))))))))
theorem laws_FnExactBoardTimeout.mono_l : ∀ k, (∀ y0 y1 y2 y3 y4 y5 y6 y7 y8 y9 y10 y11 y12 y13 y14, LeO (laws_FnExactBoardTimeout.j0 k y0 y1 y2 y3 y4 y5 y6 y7 y8 y9 y10 y11 y12 y13 y14) (laws_FnExactBoardTimeout.j0 (k + 1) y0 y1 y2 y3 y4 y5 y6 y7 y8 y9 y10 y11 y12 y13 y14)) ∧ (∀ y0 y1 y2 y3 y4 y5 y6 y7 y8 y9 y10, LeO (laws_FnExactBoardTimeout.j1 k y0 y1 y2 y3 y4 y5 y6 y7 y8 y9 y10) (laws_FnExactBoardTimeout.j1 (k + 1) y0 y1 y2 y3 y4 y5 y6 y7 y8 y9 y10)) ∧ (∀ y0 y1 y2 y3 y4, LeO (laws_FnExactBoardTimeout.j2 k y0 y1 y2 y3 y4) (laws_FnExactBoardTimeout.j2 (k + 1) y0 y1 y2 y3 y4))
  | 0 => ⟨fun _ _ _ _ _ _ _ _ _ _ _ _ _ _ _ r h => by simp [laws_FnExactBoardTimeout.j0] at h, fun _ _ _ _ _ _ _ _ _ _ _ r h => by simp [laws_FnExactBoardTimeout.j1] at h, fun _ _ _ _ _ r h => by simp [laws_FnExactBoardTimeout.j2] at h⟩
  | k + 1 => by
    obtain ⟨ih0, ih1, ih2⟩ := laws_FnExactBoardTimeout.mono_l k
    refine ⟨?_, ?_, ?_⟩
    · intro y0 y1 y2 y3 y4 y5 y6 y7 y8 y9 y10 y11 y12 y13 y14
      unfold laws_FnExactBoardTimeout.j0
      repeat' first
      | (with_reducible exact ih0 _ _ _ _ _ _ _ _ _ _ _ _ _ _ _)
      | (with_reducible exact ih1 _ _ _ _ _ _ _ _ _ _ _)
      | (with_reducible exact ih2 _ _ _ _ _)
      | (with_reducible exact impl_BoardTimeout.mono _ _ _ _)
      | (with_reducible exact laws_eqBoard.mono _ _ _ _ _ _ _)
      | (with_reducible exact laws_heldBoard.mono _ _ _ _ _)
      | (with_reducible exact laws_markBoard.mono _ _ _ _ _)
      | (with_reducible exact laws_toBoard.mono _ _ _ _)
      | (with_reducible exact spec_BoardTimeout.mono _ _ _ _)
      | (with_reducible exact LeO.refl _)
      | (with_reducible exact LeO.none _)
      | (with_reducible refine LeO.ite ?_ ?_)
      | (with_reducible refine LeO.bind ?_ (fun _ => ?_))
      | exact ih0 _ _ _ _ _ _ _ _ _ _ _ _ _ _ _
      | exact ih1 _ _ _ _ _ _ _ _ _ _ _
      | exact ih2 _ _ _ _ _
      | exact impl_BoardTimeout.mono _ _ _ _
      | exact laws_eqBoard.mono _ _ _ _ _ _ _
      | exact laws_heldBoard.mono _ _ _ _ _
      | exact laws_markBoard.mono _ _ _ _ _
      | exact laws_toBoard.mono _ _ _ _
      | exact spec_BoardTimeout.mono _ _ _ _
      | exact LeO.none _
      | refine LeO.ite ?_ ?_
      | refine LeO.bind ?_ (fun _ => ?_)
    · intro y0 y1 y2 y3 y4 y5 y6 y7 y8 y9 y10
      unfold laws_FnExactBoardTimeout.j1
      repeat' first
      | (with_reducible exact ih0 _ _ _ _ _ _ _ _ _ _ _ _ _ _ _)
      | (with_reducible exact ih1 _ _ _ _ _ _ _ _ _ _ _)
      | (with_reducible exact ih2 _ _ _ _ _)
      | (with_reducible exact impl_BoardTimeout.mono _ _ _ _)
      | (with_reducible exact laws_eqBoard.mono _ _ _ _ _ _ _)
      | (with_reducible exact laws_heldBoard.mono _ _ _ _ _)
      | (with_reducible exact laws_markBoard.mono _ _ _ _ _)
      | (with_reducible exact laws_toBoard.mono _ _ _ _)
      | (with_reducible exact spec_BoardTimeout.mono _ _ _ _)
      | (with_reducible exact LeO.refl _)
      | (with_reducible exact LeO.none _)
      | (with_reducible refine LeO.ite ?_ ?_)
      | (with_reducible refine LeO.bind ?_ (fun _ => ?_))
      | exact ih0 _ _ _ _ _ _ _ _ _ _ _ _ _ _ _
      | exact ih1 _ _ _ _ _ _ _ _ _ _ _
      | exact ih2 _ _ _ _ _
      | exact impl_BoardTimeout.mono _ _ _ _
      | exact laws_eqBoard.mono _ _ _ _ _ _ _
      | exact laws_heldBoard.mono _ _ _ _ _
      | exact laws_markBoard.mono _ _ _ _ _
      | exact laws_toBoard.mono _ _ _ _
      | exact spec_BoardTimeout.mono _ _ _ _
      | exact LeO.none _
      | refine LeO.ite ?_ ?_
      | refine LeO.bind ?_ (fun _ => ?_)
    · intro y0 y1 y2 y3 y4
      unfold laws_FnExactBoardTimeout.j2
      repeat' first
      | (with_reducible exact ih0 _ _ _ _ _ _ _ _ _ _ _ _ _ _ _)
      | (with_reducible exact ih1 _ _ _ _ _ _ _ _ _ _ _)
      | (with_reducible exact ih2 _ _ _ _ _)
      | (with_reducible exact impl_BoardTimeout.mono _ _ _ _)
      | (with_reducible exact laws_eqBoard.mono _ _ _ _ _ _ _)
      | (with_reducible exact laws_heldBoard.mono _ _ _ _ _)
      | (with_reducible exact laws_markBoard.mono _ _ _ _ _)
      | (with_reducible exact laws_toBoard.mono _ _ _ _)
      | (with_reducible exact spec_BoardTimeout.mono _ _ _ _)
      | (with_reducible exact LeO.refl _)
      | (with_reducible exact LeO.none _)
      | (with_reducible refine LeO.ite ?_ ?_)
      | (with_reducible refine LeO.bind ?_ (fun _ => ?_))
      | exact ih0 _ _ _ _ _ _ _ _ _ _ _ _ _ _ _
      | exact ih1 _ _ _ _ _ _ _ _ _ _ _
      | exact ih2 _ _ _ _ _
      | exact impl_BoardTimeout.mono _ _ _ _
      | exact laws_eqBoard.mono _ _ _ _ _ _ _
      | exact laws_heldBoard.mono _ _ _ _ _
      | exact laws_markBoard.mono _ _ _ _ _
      | exact laws_toBoard.mono _ _ _ _
      | exact spec_BoardTimeout.mono _ _ _ _
      | exact LeO.none _
      | refine LeO.ite ?_ ?_
      | refine LeO.bind ?_ (fun _ => ?_)
theorem laws_FnExactBoardTimeout.mono : ∀ a0 a1 a2 k, LeO (laws_FnExactBoardTimeout.f k a0 a1 a2) (laws_FnExactBoardTimeout.f (k + 1) a0 a1 a2) := by
 intro a0 a1 a2 k
 obtain ⟨ih0, ih1, ih2⟩ := laws_FnExactBoardTimeout.mono_l k
 unfold laws_FnExactBoardTimeout.f
 repeat' first
     | (with_reducible exact ih0 _ _ _ _ _ _ _ _ _ _ _ _ _ _ _)
     | (with_reducible exact ih1 _ _ _ _ _ _ _ _ _ _ _)
     | (with_reducible exact ih2 _ _ _ _ _)
     | (with_reducible exact impl_BoardTimeout.mono _ _ _ _)
     | (with_reducible exact laws_eqBoard.mono _ _ _ _ _ _ _)
     | (with_reducible exact laws_heldBoard.mono _ _ _ _ _)
     | (with_reducible exact laws_markBoard.mono _ _ _ _ _)
     | (with_reducible exact laws_toBoard.mono _ _ _ _)
     | (with_reducible exact spec_BoardTimeout.mono _ _ _ _)
     | (with_reducible exact LeO.refl _)
     | (with_reducible exact LeO.none _)
     | (with_reducible refine LeO.ite ?_ ?_)
     | (with_reducible refine LeO.bind ?_ (fun _ => ?_))
     | exact ih0 _ _ _ _ _ _ _ _ _ _ _ _ _ _ _
     | exact ih1 _ _ _ _ _ _ _ _ _ _ _
     | exact ih2 _ _ _ _ _
     | exact impl_BoardTimeout.mono _ _ _ _
     | exact laws_eqBoard.mono _ _ _ _ _ _ _
     | exact laws_heldBoard.mono _ _ _ _ _
     | exact laws_markBoard.mono _ _ _ _ _
     | exact laws_toBoard.mono _ _ _ _
     | exact spec_BoardTimeout.mono _ _ _ _
     | exact LeO.none _
     | refine LeO.ite ?_ ?_
     | refine LeO.bind ?_ (fun _ => ?_)
set_option maxHeartbeats 60000000 in
set_option maxRecDepth 100000 in
theorem laws_FnExactBoardTimeout.calls (k : Nat) (a0_0 : Int) (a0_1 : Int) (A0_2 : Option Addr) (c0_2 : Nat) (l0_2 : List (S168)) (r : Bool) (w : World) (hr0_2 : Kd.C k168 w A0_2 l0_2.length l0_2) (hc0_2 : l0_2.length ≤ c0_2) (h : laws_FnExactBoardTimeout.f k a0_0 a0_1 l0_2 = some r) :
 Calls Try.prog 7 #[.agg #[.int .i64 a0_0, .int .i64 a0_1, .slice A0_2 l0_2.length c0_2]] w fun e w' => e = .returned (.bool r) ∧ Below w.heap.size w w' := by
 have hu59 := Try.underlying59
 have hu63 := Try.underlying63
 have HR0_2 := Aside0.mk hr0_2
 have HC0_2 := Aside0.mk hc0_2
 clear hr0_2 hc0_2
 have HB := Aside0.mk (Below.refl w.heap.size w)
 have H : ((laws_szBoard.f a0_0 a0_1 l0_2 1048576).bind fun t199 => (if t199 < 0 then (some true) else ((laws_toBoard.f k a0_0 a0_1 l0_2).bind fun bt200 => ((spec_BoardTimeout.f k bt200.1 bt200.2.1 bt200.2.2).bind fun bt205 => ((laws_toBoard.f k a0_0 a0_1 l0_2).bind fun bt212 => ((impl_BoardTimeout.f k bt212.1 bt212.2.1 bt212.2.2).bind fun bt218 => ((laws_eqBoard.f k bt218.1 bt218.2.1 bt218.2.2.1 bt205.1 bt205.2.1 bt205.2.2.1).bind fun t225 => (if t225 = true then (laws_FnExactBoardTimeout.j0 k bt205.2.2.2 bt218.2.2.2 (bt218.2.2.2 != bt205.2.2.2) a0_0 a0_1 l0_2 bt205.1 bt205.2.1 bt205.2.2.1 bt212.1 bt212.2.1 bt212.2.2 bt218.1 bt218.2.1 bt218.2.2.1) else (laws_FnExactBoardTimeout.j0 k bt205.2.2.2 bt218.2.2.2 true a0_0 a0_1 l0_2 bt205.1 bt205.2.1 bt205.2.2.1 bt212.1 bt212.2.1 bt212.2.2 bt218.1 bt218.2.1 bt218.2.2.1))))))))) = some r := h
 clear h
 replace H := Option.bind_eq_some_iff.mp H
 obtain ⟨t199, A20, H⟩ := H
 replace H : (if t199 < 0 then (some true) else ((laws_toBoard.f k a0_0 a0_1 l0_2).bind fun bt200 => ((spec_BoardTimeout.f k bt200.1 bt200.2.1 bt200.2.2).bind fun bt205 => ((laws_toBoard.f k a0_0 a0_1 l0_2).bind fun bt212 => ((impl_BoardTimeout.f k bt212.1 bt212.2.1 bt212.2.2).bind fun bt218 => ((laws_eqBoard.f k bt218.1 bt218.2.1 bt218.2.2.1 bt205.1 bt205.2.1 bt205.2.2.1).bind fun t225 => (if t225 = true then (laws_FnExactBoardTimeout.j0 k bt205.2.2.2 bt218.2.2.2 (bt218.2.2.2 != bt205.2.2.2) a0_0 a0_1 l0_2 bt205.1 bt205.2.1 bt205.2.2.1 bt212.1 bt212.2.1 bt212.2.2 bt218.1 bt218.2.1 bt218.2.2.1) else (laws_FnExactBoardTimeout.j0 k bt205.2.2.2 bt218.2.2.2 true a0_0 a0_1 l0_2 bt205.1 bt205.2.1 bt205.2.2.1 bt212.1 bt212.2.1 bt212.2.2 bt218.1 bt218.2.1 bt218.2.2.1)))))))) = some r := H
 have A2 := Aside0.mk A20
 clear A20
 by_cases c3 : t199 < 0
 {
 rw [if_pos c3] at H
 have c3b0 : decide (t199 < 0) = true := decide_eq_true c3
 clear c3
 obtain rfl := Option.some.inj H
 go_enter Try.func7, Try.ntmps7
 go_wp2_with (first | ((with_reducible refine gate_dst (N := 1) rfl ?_); refine box_event ?hg (N := 1) ?hd (cs := #[.int .i64 a0_0, .int .i64 a0_1, .slice A0_2 l0_2.length c0_2]) (t := 59) ?hr ?_; (case hd => rfl); (case hg => rfl); (case hr => first | (go_simp; done) | (go_simp; rfl)); intro gb198 hg w1001 hbox hb; have n0_ := Aside0.mk (below_step wB hb); have n1_ := Aside0.mk (hbox); have n2_ := Aside0.mk ((by rw [hg]; exact (below_size wB) : w.heap.size ≤ gb198)); have n3_ := Aside0.mk ((by rw [hg]; exact (below_size wB) : w.heap.size ≤ gb198)); clear HB; have HB := n0_; have BK198 := n1_; have GW198 := n2_; have GE198 := n3_; clear n0_ n1_ n2_ n3_; clear hb hbox hg; obtain ⟨⟨hcz1002_0, hcz1002_1, hcz1002_2⟩, hfz1002_0, hfz1002_1, hfz1002_2⟩ := cells3 BK198.out) | ((with_reducible refine gate_callee (f := 36) rfl ?_); refine goesL_ (some 16) rfl rfl Try.func36 (by kernel_rfl) rfl #[.agg #[.int .i64 a0_0, .int .i64 a0_1, .slice A0_2 l0_2.length c0_2], .int .i64 1048576] rfl wT ?_; (with_reducible refine (laws_szBoard.calls a0_0 a0_1 _ _ l0_2 1048576 t199 _ ?side1 ?side2 A2.out).mono ?_); (case side1 => exact Kd.C_below HR0_2.out wB); (case side2 => exact HC0_2.out); rintro e w1003 ⟨rfl, hb⟩; refine ⟨_, rfl, ?_⟩; have n0_ := Aside0.mk (blk_below (Bh BK198) hb); have n1_ := Aside0.mk (below_step wB hb); clear BK198; clear HB; have BK198 := n0_; have HB := n1_; clear n0_ n1_; (try clear hb); (try clear hb2); (try clear hk); (try clear hi)))
 go_ret
 exact ⟨by first | rfl | (simp [errW_none, errW_some] <;> rfl) | (simp [*, errW_none, errW_some] <;> rfl), wB⟩
 }
 {
 rw [if_neg c3] at H
 have c3b0 : decide (t199 < 0) = false := decide_eq_false c3
 clear c3
 replace H := Option.bind_eq_some_iff.mp H
 obtain ⟨⟨t200, t201, t202⟩, A40, H⟩ := H
 replace H : ((spec_BoardTimeout.f k t200 t201 t202).bind fun bt205 => ((laws_toBoard.f k a0_0 a0_1 l0_2).bind fun bt212 => ((impl_BoardTimeout.f k bt212.1 bt212.2.1 bt212.2.2).bind fun bt218 => ((laws_eqBoard.f k bt218.1 bt218.2.1 bt218.2.2.1 bt205.1 bt205.2.1 bt205.2.2.1).bind fun t225 => (if t225 = true then (laws_FnExactBoardTimeout.j0 k bt205.2.2.2 bt218.2.2.2 (bt218.2.2.2 != bt205.2.2.2) a0_0 a0_1 l0_2 bt205.1 bt205.2.1 bt205.2.2.1 bt212.1 bt212.2.1 bt212.2.2 bt218.1 bt218.2.1 bt218.2.2.1) else (laws_FnExactBoardTimeout.j0 k bt205.2.2.2 bt218.2.2.2 true a0_0 a0_1 l0_2 bt205.1 bt205.2.1 bt205.2.2.1 bt212.1 bt212.2.1 bt212.2.2 bt218.1 bt218.2.1 bt218.2.2.1)))))) = some r := H
 have A4 := Aside0.mk A40
 clear A40
 replace H := Option.bind_eq_some_iff.mp H
 obtain ⟨⟨t205, t206, t207, t210⟩, A50, H⟩ := H
 replace H : ((laws_toBoard.f k a0_0 a0_1 l0_2).bind fun bt212 => ((impl_BoardTimeout.f k bt212.1 bt212.2.1 bt212.2.2).bind fun bt218 => ((laws_eqBoard.f k bt218.1 bt218.2.1 bt218.2.2.1 t205 t206 t207).bind fun t225 => (if t225 = true then (laws_FnExactBoardTimeout.j0 k t210 bt218.2.2.2 (bt218.2.2.2 != t210) a0_0 a0_1 l0_2 t205 t206 t207 bt212.1 bt212.2.1 bt212.2.2 bt218.1 bt218.2.1 bt218.2.2.1) else (laws_FnExactBoardTimeout.j0 k t210 bt218.2.2.2 true a0_0 a0_1 l0_2 t205 t206 t207 bt212.1 bt212.2.1 bt212.2.2 bt218.1 bt218.2.1 bt218.2.2.1))))) = some r := H
 have A5 := Aside0.mk A50
 clear A50
 replace H := Option.bind_eq_some_iff.mp H
 obtain ⟨⟨t212, t213, t214⟩, A60, H⟩ := H
 replace H : ((impl_BoardTimeout.f k t212 t213 t214).bind fun bt218 => ((laws_eqBoard.f k bt218.1 bt218.2.1 bt218.2.2.1 t205 t206 t207).bind fun t225 => (if t225 = true then (laws_FnExactBoardTimeout.j0 k t210 bt218.2.2.2 (bt218.2.2.2 != t210) a0_0 a0_1 l0_2 t205 t206 t207 t212 t213 t214 bt218.1 bt218.2.1 bt218.2.2.1) else (laws_FnExactBoardTimeout.j0 k t210 bt218.2.2.2 true a0_0 a0_1 l0_2 t205 t206 t207 t212 t213 t214 bt218.1 bt218.2.1 bt218.2.2.1)))) = some r := H
 have A6 := Aside0.mk A60
 clear A60
 replace H := Option.bind_eq_some_iff.mp H
 obtain ⟨⟨t218, t219, t220, t223⟩, A70, H⟩ := H
 replace H : ((laws_eqBoard.f k t218 t219 t220 t205 t206 t207).bind fun t225 => (if t225 = true then (laws_FnExactBoardTimeout.j0 k t210 t223 (t223 != t210) a0_0 a0_1 l0_2 t205 t206 t207 t212 t213 t214 t218 t219 t220) else (laws_FnExactBoardTimeout.j0 k t210 t223 true a0_0 a0_1 l0_2 t205 t206 t207 t212 t213 t214 t218 t219 t220))) = some r := H
 have A7 := Aside0.mk A70
 clear A70
 have HC8 := Aside0.mk H
 clear H
 go_enter Try.func7, Try.ntmps7
 go_upto_region 8 with (first | ((with_reducible refine gate_dst (N := 1) rfl ?_); refine box_event ?hg (N := 1) ?hd (cs := #[.int .i64 a0_0, .int .i64 a0_1, .slice A0_2 l0_2.length c0_2]) (t := 59) ?hr ?_; (case hd => rfl); (case hg => rfl); (case hr => first | (go_simp; done) | (go_simp; rfl)); intro gb198 hg w1001 hbox hb; have n0_ := Aside0.mk (below_step wB hb); have n1_ := Aside0.mk (hbox); have n2_ := Aside0.mk ((by rw [hg]; exact (below_size wB) : w.heap.size ≤ gb198)); have n3_ := Aside0.mk ((by rw [hg]; exact (below_size wB) : w.heap.size ≤ gb198)); clear HB; have HB := n0_; have BK198 := n1_; have GW198 := n2_; have GE198 := n3_; clear n0_ n1_ n2_ n3_; clear hb hbox hg; obtain ⟨⟨hcz1002_0, hcz1002_1, hcz1002_2⟩, hfz1002_0, hfz1002_1, hfz1002_2⟩ := cells3 BK198.out) | ((with_reducible refine gate_callee (f := 36) rfl ?_); refine goesL_ (some 16) rfl rfl Try.func36 (by kernel_rfl) rfl #[.agg #[.int .i64 a0_0, .int .i64 a0_1, .slice A0_2 l0_2.length c0_2], .int .i64 1048576] rfl wT ?_; (with_reducible refine (laws_szBoard.calls a0_0 a0_1 _ _ l0_2 1048576 t199 _ ?side1 ?side2 A2.out).mono ?_); (case side1 => exact Kd.C_below HR0_2.out wB); (case side2 => exact HC0_2.out); rintro e w1003 ⟨rfl, hb⟩; refine ⟨_, rfl, ?_⟩; have n0_ := Aside0.mk (blk_below (Bh BK198) hb); have n1_ := Aside0.mk (below_step wB hb); clear BK198; clear HB; have BK198 := n0_; have HB := n1_; clear n0_ n1_; (try clear hb); (try clear hb2); (try clear hk); (try clear hi); obtain ⟨⟨hcz1004_0, hcz1004_1, hcz1004_2⟩, hfz1004_0, hfz1004_1, hfz1004_2⟩ := cells3 BK198.out) | ((with_reducible refine gate_callee (f := 38) rfl ?_); refine goesL_ (some 21) rfl rfl Try.func38 (by kernel_rfl) rfl #[.agg #[.int .i64 a0_0, .int .i64 a0_1, .slice A0_2 l0_2.length c0_2]] rfl wT ?_; (with_reducible refine (laws_toBoard.calls k a0_0 a0_1 _ _ l0_2 t200 t201 t202 _ ?side1 ?side2 A4.out).mono ?_); (case side1 => exact Kd.C_below HR0_2.out wB); (case side2 => exact HC0_2.out); rintro e w1005 ⟨v203, rfl, ho0, hb⟩; refine ⟨_, rfl, ?_⟩; have n0_ := Aside0.mk (Kd.R_lower ho0 (below_size wB)); have n1_ := Aside0.mk (blk_below (Bh BK198) hb); have n2_ := Aside0.mk (below_step wB hb); clear BK198; clear HB; have HO204 := n0_; have BK198 := n1_; have HB := n2_; clear n0_ n1_ n2_; (try clear hb); (try clear hb2); (try clear hk); (try clear hi); (try clear ho0); obtain ⟨Ao1006, co1006, eo1006⟩ := Kd.R_slice HO204.out; subst eo1006) | ((with_reducible refine gate_callee (f := 37) rfl ?_); refine goesL_ (some 22) rfl rfl Try.func37 (by kernel_rfl) rfl #[.agg #[.int .i64 t200, .int .i64 t201, .slice Ao1006 t202.length co1006]] rfl wT ?_; (with_reducible refine (spec_BoardTimeout.calls k t200 t201 _ _ t202 t205 t206 t207 t210 _ ?side1 ?side2 A5.out).mono ?_); (case side1 => exact Ch HO204); (case side2 => exact (Kd.R_reads' HO204.out).2.1); rintro e w1007 ⟨v208, rfl, ho0, hb⟩; refine ⟨_, rfl, ?_⟩; have n0_ := Aside0.mk (Kd.R_elder' (Rh HO204) (Kd.R_base ho0) hb); have n1_ := Aside0.mk (Kd.R_lower (Kd.R_new' ho0 (Kd.R_lt (Rh HO204))) (below_size wB)); have n2_ := Aside0.mk (blk_below (Bh BK198) hb); have n3_ := Aside0.mk (below_step wB hb); clear HO204; clear BK198; clear HB; have HO204 := n0_; have HO209 := n1_; have BK198 := n2_; have HB := n3_; clear n0_ n1_ n2_ n3_; (try clear hb); (try clear hb2); (try clear hk); (try clear hi); (try clear ho0)) | ((with_reducible refine gate_dst (N := 4) rfl ?_); refine box_event ?hg (N := 4) ?hd (cs := #[.int .i64 0, .int .i64 0, .slice none 0 0]) (t := 63) ?hr ?_; (case hd => rfl); (case hg => rfl); (case hr => first | (go_simp; done) | (go_simp; rfl)); intro gb211 hg w1008 hbox hb; have n0_ := Aside0.mk (Kd.R_below (Rh HO204) hb); have n1_ := Aside0.mk (Kd.R_below (Rh HO209) hb); have n2_ := Aside0.mk (blk_below (Bh BK198) hb); have n3_ := Aside0.mk (below_step wB hb); have n4_ := Aside0.mk (hbox); have n5_ := Aside0.mk ((by rw [hg]; exact (below_size wB) : w.heap.size ≤ gb211)); have n6_ := Aside0.mk ((by rw [hg]; exact (below_size wB) : w.heap.size ≤ gb211)); have n7_ := Aside0.mk ((by rw [hg]; exact Nat.ne_of_lt (blk_lt (Bh BK198)) : gb198 ≠ gb211)); have n8_ := Aside0.mk ((by rw [hg]; exact Nat.ne_of_gt (blk_lt (Bh BK198)) : gb211 ≠ gb198)); clear HO204; clear HO209; clear BK198; clear HB; have HO204 := n0_; have HO209 := n1_; have BK198 := n2_; have HB := n3_; have BK211 := n4_; have GW211 := n5_; have GE211 := n6_; have NB198_211 := n7_; have NB211_198 := n8_; clear n0_ n1_ n2_ n3_ n4_ n5_ n6_ n7_ n8_; clear hb hbox hg; have hnb1009 := NB211_198.out; have hnc1009 := NB198_211.out; obtain ⟨⟨hcz1010_0, hcz1010_1, hcz1010_2⟩, hfz1010_0, hfz1010_1, hfz1010_2⟩ := cells3 BK211.out; obtain ⟨Ao1011, co1011, eo1011⟩ := Kd.R_slice HO209.out; subst eo1011) | ((with_reducible refine gate_store (t := 63) (p := 4) rfl ?_); (try (rw [drewN_self w1008]; generalize hq_ : World.drewN w1008 _ = w1008; have n0_ := Aside0.mk (Kd.R_at hq_ HO204.out); have n1_ := Aside0.mk (Kd.R_at hq_ HO209.out); have n2_ := Aside0.mk (blk_at hq_ BK198.out); have n3_ := Aside0.mk (blk_at hq_ BK211.out); have n4_ := Aside0.mk (below_at hq_ HB.out); clear hq_ HO204 HO209 BK198 BK211 HB; have HO204 := n0_; have HO209 := n1_; have BK198 := n2_; have BK211 := n3_; have HB := n4_; clear n0_ n1_ n2_ n3_ n4_; (try (obtain ⟨⟨hcyBK198_0, hcyBK198_1, hcyBK198_2⟩, hfyBK198_0, hfyBK198_1, hfyBK198_2⟩ := cells3 BK198.out)); (try (obtain ⟨⟨hcyBK211_0, hcyBK211_1, hcyBK211_2⟩, hfyBK211_0, hfyBK211_1, hfyBK211_2⟩ := cells3 BK211.out)))); refine store_event (t := 63) (p := 4) (v := ?_) (w1 := (((w1008.setCell ⟨gb211, 0, none⟩ (.int .i64 t205)).setCell ⟨gb211, 1, none⟩ (.int .i64 t206)).setCell ⟨gb211, 2, none⟩ (.slice Ao1011 t207.length co1011))) ?hg ?ho ?hn ?hr ?_; (case ho => rfl); (case hg => rfl); (case hn => rfl); (case hr => first | (go_simp; done) | (go_simp; rfl)); intro w1012 hw; have n0_ : Aside0 (Kd.R k85 85 w1012 w.heap.size (fun k_ => some k_ ≠ (.slice Ao1011 t207.length co1011 : Value).ownBlock) (.slice Ao1006 t202.length co1006) t202) := ⟨(by rw [hw]; exact (by (with_reducible repeat (first | apply Kd.R_alloc | apply Kd.R_drewN | apply Kd.R_drew)); exact Kd.R_mono (Kd.R_far (p := ⟨gb211, 2, none⟩) (Kd.R_far (p := ⟨gb211, 1, none⟩) (Kd.R_far (p := ⟨gb211, 0, none⟩) (Kd.R_types HO204.out BK211.out (by decide)) (fun _ hk => hk.2) (.int .i64 t205)) (fun _ hk => hk.2) (.int .i64 t206)) (fun _ hk => hk.2) (.slice Ao1011 t207.length co1011)) (fun _ hk => hk.1.2)))⟩; have n1_ : Aside0 (Kd.R k85 85 w1012 w.heap.size (fun k_ => some k_ ≠ (.slice Ao1006 t202.length co1006 : Value).ownBlock) (.slice Ao1011 t207.length co1011) t207) := ⟨(by rw [hw]; exact (by (with_reducible repeat (first | apply Kd.R_alloc | apply Kd.R_drewN | apply Kd.R_drew)); exact Kd.R_mono (Kd.R_far (p := ⟨gb211, 2, none⟩) (Kd.R_far (p := ⟨gb211, 1, none⟩) (Kd.R_far (p := ⟨gb211, 0, none⟩) (Kd.R_types HO209.out BK211.out (by decide)) (fun _ hk => hk.2) (.int .i64 t205)) (fun _ hk => hk.2) (.int .i64 t206)) (fun _ hk => hk.2) (.slice Ao1011 t207.length co1011)) (fun _ hk => hk.1.2)))⟩; have n2_ : Aside0 (w1012.heap[gb198]? = some (.cells #[.int .i64 a0_0, .int .i64 a0_1, .slice A0_2 l0_2.length c0_2] 59 (0, 0))) := ⟨(by rw [hw]; exact (by (with_reducible repeat (first | refine blk_drewN ?_ _ | refine blk_drew ?_ | refine blk_alloc ?_ _)); refine blk_far ?_ NB198_211.out _; (with_reducible repeat (first | refine blk_drewN ?_ _ | refine blk_drew ?_ | refine blk_alloc ?_ _)); refine blk_far ?_ NB198_211.out _; (with_reducible repeat (first | refine blk_drewN ?_ _ | refine blk_drew ?_ | refine blk_alloc ?_ _)); refine blk_far ?_ NB198_211.out _; (with_reducible repeat (first | refine blk_drewN ?_ _ | refine blk_drew ?_ | refine blk_alloc ?_ _)); exact BK198.out))⟩; have n3_ : Aside0 (w1012.heap[gb211]? = some (.cells #[.int .i64 t205, .int .i64 t206, .slice Ao1011 t207.length co1011] 63 (0, 0))) := ⟨(by rw [hw]; exact (by (with_reducible repeat (first | refine blk_drewN ?_ _ | refine blk_drew ?_ | refine blk_alloc ?_ _)); refine blk_put (cs := #[.int .i64 t205, .int .i64 t206, .slice none 0 0]) ?_ 2 _ rfl; (with_reducible repeat (first | refine blk_drewN ?_ _ | refine blk_drew ?_ | refine blk_alloc ?_ _)); refine blk_put (cs := #[.int .i64 t205, .int .i64 0, .slice none 0 0]) ?_ 1 _ rfl; (with_reducible repeat (first | refine blk_drewN ?_ _ | refine blk_drew ?_ | refine blk_alloc ?_ _)); refine blk_put (cs := #[.int .i64 0, .int .i64 0, .slice none 0 0]) ?_ 0 _ rfl; (with_reducible repeat (first | refine blk_drewN ?_ _ | refine blk_drew ?_ | refine blk_alloc ?_ _)); exact BK211.out))⟩; have n4_ : Aside0 (Below w.heap.size w w1012) := ⟨(by rw [hw]; exact wB)⟩; clear hw; clear HO204; clear HO209; clear BK198; clear BK211; clear HB; have HO204 := n0_; have HO209 := n1_; have BK198 := n2_; have BK211 := n3_; have HB := n4_; clear n0_ n1_ n2_ n3_ n4_; obtain ⟨⟨hcz1013_0, hcz1013_1, hcz1013_2⟩, hfz1013_0, hfz1013_1, hfz1013_2⟩ := cells3 BK198.out) | ((with_reducible refine gate_callee (f := 38) rfl ?_); refine goesL_ (some 26) rfl rfl Try.func38 (by kernel_rfl) rfl #[.agg #[.int .i64 a0_0, .int .i64 a0_1, .slice A0_2 l0_2.length c0_2]] rfl wT ?_; (with_reducible refine (laws_toBoard.calls k a0_0 a0_1 _ _ l0_2 t212 t213 t214 _ ?side1 ?side2 A6.out).mono ?_); (case side1 => exact Kd.C_below HR0_2.out wB); (case side2 => exact HC0_2.out); rintro e w1014 ⟨v215, rfl, ho0, hb⟩; refine ⟨_, rfl, ?_⟩; have n0_ := Aside0.mk (Kd.R_elder' (Rh HO204) (Kd.R_base ho0) hb); have n1_ := Aside0.mk (Kd.R_elder' (Rh HO209) (Kd.R_base ho0) hb); have n2_ := Aside0.mk (Kd.R_lower (Kd.R_new' (Kd.R_new' ho0 (Kd.R_lt (Rh HO204))) (Kd.R_lt (Rh HO209))) (below_size wB)); have n3_ := Aside0.mk (blk_below (Bh BK198) hb); have n4_ := Aside0.mk (blk_below (Bh BK211) hb); have n5_ := Aside0.mk (below_step wB hb); clear HO204; clear HO209; clear BK198; clear BK211; clear HB; have HO204 := n0_; have HO209 := n1_; have HO216 := n2_; have BK198 := n3_; have BK211 := n4_; have HB := n5_; clear n0_ n1_ n2_ n3_ n4_ n5_; (try clear hb); (try clear hb2); (try clear hk); (try clear hi); (try clear ho0)) | ((with_reducible refine gate_dst (N := 6) rfl ?_); refine box_event ?hg (N := 6) ?hd (cs := #[.int .i64 0, .int .i64 0, .slice none 0 0]) (t := 63) ?hr ?_; (case hd => rfl); (case hg => rfl); (case hr => first | (go_simp; done) | (go_simp; rfl)); intro gb217 hg w1015 hbox hb; have n0_ := Aside0.mk (Kd.R_below (Rh HO204) hb); have n1_ := Aside0.mk (Kd.R_below (Rh HO209) hb); have n2_ := Aside0.mk (Kd.R_below (Rh HO216) hb); have n3_ := Aside0.mk (blk_below (Bh BK198) hb); have n4_ := Aside0.mk (blk_below (Bh BK211) hb); have n5_ := Aside0.mk (below_step wB hb); have n6_ := Aside0.mk (hbox); have n7_ := Aside0.mk ((by rw [hg]; exact (below_size wB) : w.heap.size ≤ gb217)); have n8_ := Aside0.mk ((by rw [hg]; exact (below_size wB) : w.heap.size ≤ gb217)); have n9_ := Aside0.mk ((by rw [hg]; exact Nat.ne_of_lt (blk_lt (Bh BK198)) : gb198 ≠ gb217)); have n10_ := Aside0.mk ((by rw [hg]; exact Nat.ne_of_gt (blk_lt (Bh BK198)) : gb217 ≠ gb198)); have n11_ := Aside0.mk ((by rw [hg]; exact Nat.ne_of_lt (blk_lt (Bh BK211)) : gb211 ≠ gb217)); have n12_ := Aside0.mk ((by rw [hg]; exact Nat.ne_of_gt (blk_lt (Bh BK211)) : gb217 ≠ gb211)); clear HO204; clear HO209; clear HO216; clear BK198; clear BK211; clear HB; have HO204 := n0_; have HO209 := n1_; have HO216 := n2_; have BK198 := n3_; have BK211 := n4_; have HB := n5_; have BK217 := n6_; have GW217 := n7_; have GE217 := n8_; have NB198_217 := n9_; have NB217_198 := n10_; have NB211_217 := n11_; have NB217_211 := n12_; clear n0_ n1_ n2_ n3_ n4_ n5_ n6_ n7_ n8_ n9_ n10_ n11_ n12_; clear hb hbox hg; have hnb1016 := NB217_198.out; have hnc1016 := NB198_217.out; have hnb1017 := NB217_211.out; have hnc1017 := NB211_217.out; obtain ⟨⟨hcz1018_0, hcz1018_1, hcz1018_2⟩, hfz1018_0, hfz1018_1, hfz1018_2⟩ := cells3 BK217.out; obtain ⟨Ao1019, co1019, eo1019⟩ := Kd.R_slice HO216.out; subst eo1019) | ((with_reducible refine gate_store (t := 63) (p := 6) rfl ?_); (try (rw [drewN_self w1015]; generalize hq_ : World.drewN w1015 _ = w1015; have n0_ := Aside0.mk (Kd.R_at hq_ HO204.out); have n1_ := Aside0.mk (Kd.R_at hq_ HO209.out); have n2_ := Aside0.mk (Kd.R_at hq_ HO216.out); have n3_ := Aside0.mk (blk_at hq_ BK198.out); have n4_ := Aside0.mk (blk_at hq_ BK211.out); have n5_ := Aside0.mk (blk_at hq_ BK217.out); have n6_ := Aside0.mk (below_at hq_ HB.out); clear hq_ HO204 HO209 HO216 BK198 BK211 BK217 HB; have HO204 := n0_; have HO209 := n1_; have HO216 := n2_; have BK198 := n3_; have BK211 := n4_; have BK217 := n5_; have HB := n6_; clear n0_ n1_ n2_ n3_ n4_ n5_ n6_; (try (obtain ⟨⟨hcyBK198_0, hcyBK198_1, hcyBK198_2⟩, hfyBK198_0, hfyBK198_1, hfyBK198_2⟩ := cells3 BK198.out)); (try (obtain ⟨⟨hcyBK211_0, hcyBK211_1, hcyBK211_2⟩, hfyBK211_0, hfyBK211_1, hfyBK211_2⟩ := cells3 BK211.out)); (try (obtain ⟨⟨hcyBK217_0, hcyBK217_1, hcyBK217_2⟩, hfyBK217_0, hfyBK217_1, hfyBK217_2⟩ := cells3 BK217.out)))); refine store_event (t := 63) (p := 6) (v := ?_) (w1 := (((w1015.setCell ⟨gb217, 0, none⟩ (.int .i64 t212)).setCell ⟨gb217, 1, none⟩ (.int .i64 t213)).setCell ⟨gb217, 2, none⟩ (.slice Ao1019 t214.length co1019))) ?hg ?ho ?hn ?hr ?_; (case ho => rfl); (case hg => rfl); (case hn => rfl); (case hr => first | (go_simp; done) | (go_simp; rfl)); intro w1020 hw; have n0_ : Aside0 (Kd.R k85 85 w1020 w.heap.size (fun k_ => some k_ ≠ (.slice Ao1011 t207.length co1011 : Value).ownBlock ∧ some k_ ≠ (.slice Ao1019 t214.length co1019 : Value).ownBlock) (.slice Ao1006 t202.length co1006) t202) := ⟨(by rw [hw]; exact (by (with_reducible repeat (first | apply Kd.R_alloc | apply Kd.R_drewN | apply Kd.R_drew)); exact Kd.R_mono (Kd.R_far (p := ⟨gb217, 2, none⟩) (Kd.R_far (p := ⟨gb217, 1, none⟩) (Kd.R_far (p := ⟨gb217, 0, none⟩) (Kd.R_types HO204.out BK217.out (by decide)) (fun _ hk => hk.2) (.int .i64 t212)) (fun _ hk => hk.2) (.int .i64 t213)) (fun _ hk => hk.2) (.slice Ao1019 t214.length co1019)) (fun _ hk => ⟨hk.1.1, hk.1.2⟩)))⟩; have n1_ : Aside0 (Kd.R k85 85 w1020 w.heap.size (fun k_ => some k_ ≠ (.slice Ao1006 t202.length co1006 : Value).ownBlock ∧ some k_ ≠ (.slice Ao1019 t214.length co1019 : Value).ownBlock) (.slice Ao1011 t207.length co1011) t207) := ⟨(by rw [hw]; exact (by (with_reducible repeat (first | apply Kd.R_alloc | apply Kd.R_drewN | apply Kd.R_drew)); exact Kd.R_mono (Kd.R_far (p := ⟨gb217, 2, none⟩) (Kd.R_far (p := ⟨gb217, 1, none⟩) (Kd.R_far (p := ⟨gb217, 0, none⟩) (Kd.R_types HO209.out BK217.out (by decide)) (fun _ hk => hk.2) (.int .i64 t212)) (fun _ hk => hk.2) (.int .i64 t213)) (fun _ hk => hk.2) (.slice Ao1019 t214.length co1019)) (fun _ hk => ⟨hk.1.1, hk.1.2⟩)))⟩; have n2_ : Aside0 (Kd.R k85 85 w1020 w.heap.size (fun k_ => some k_ ≠ (.slice Ao1006 t202.length co1006 : Value).ownBlock ∧ some k_ ≠ (.slice Ao1011 t207.length co1011 : Value).ownBlock) (.slice Ao1019 t214.length co1019) t214) := ⟨(by rw [hw]; exact (by (with_reducible repeat (first | apply Kd.R_alloc | apply Kd.R_drewN | apply Kd.R_drew)); exact Kd.R_mono (Kd.R_far (p := ⟨gb217, 2, none⟩) (Kd.R_far (p := ⟨gb217, 1, none⟩) (Kd.R_far (p := ⟨gb217, 0, none⟩) (Kd.R_types HO216.out BK217.out (by decide)) (fun _ hk => hk.2) (.int .i64 t212)) (fun _ hk => hk.2) (.int .i64 t213)) (fun _ hk => hk.2) (.slice Ao1019 t214.length co1019)) (fun _ hk => ⟨hk.1.1.2, hk.1.2⟩)))⟩; have n3_ : Aside0 (w1020.heap[gb198]? = some (.cells #[.int .i64 a0_0, .int .i64 a0_1, .slice A0_2 l0_2.length c0_2] 59 (0, 0))) := ⟨(by rw [hw]; exact (by (with_reducible repeat (first | refine blk_drewN ?_ _ | refine blk_drew ?_ | refine blk_alloc ?_ _)); refine blk_far ?_ NB198_217.out _; (with_reducible repeat (first | refine blk_drewN ?_ _ | refine blk_drew ?_ | refine blk_alloc ?_ _)); refine blk_far ?_ NB198_217.out _; (with_reducible repeat (first | refine blk_drewN ?_ _ | refine blk_drew ?_ | refine blk_alloc ?_ _)); refine blk_far ?_ NB198_217.out _; (with_reducible repeat (first | refine blk_drewN ?_ _ | refine blk_drew ?_ | refine blk_alloc ?_ _)); exact BK198.out))⟩; have n4_ : Aside0 (w1020.heap[gb211]? = some (.cells #[.int .i64 t205, .int .i64 t206, .slice Ao1011 t207.length co1011] 63 (0, 0))) := ⟨(by rw [hw]; exact (by (with_reducible repeat (first | refine blk_drewN ?_ _ | refine blk_drew ?_ | refine blk_alloc ?_ _)); refine blk_far ?_ NB211_217.out _; (with_reducible repeat (first | refine blk_drewN ?_ _ | refine blk_drew ?_ | refine blk_alloc ?_ _)); refine blk_far ?_ NB211_217.out _; (with_reducible repeat (first | refine blk_drewN ?_ _ | refine blk_drew ?_ | refine blk_alloc ?_ _)); refine blk_far ?_ NB211_217.out _; (with_reducible repeat (first | refine blk_drewN ?_ _ | refine blk_drew ?_ | refine blk_alloc ?_ _)); exact BK211.out))⟩; have n5_ : Aside0 (w1020.heap[gb217]? = some (.cells #[.int .i64 t212, .int .i64 t213, .slice Ao1019 t214.length co1019] 63 (0, 0))) := ⟨(by rw [hw]; exact (by (with_reducible repeat (first | refine blk_drewN ?_ _ | refine blk_drew ?_ | refine blk_alloc ?_ _)); refine blk_put (cs := #[.int .i64 t212, .int .i64 t213, .slice none 0 0]) ?_ 2 _ rfl; (with_reducible repeat (first | refine blk_drewN ?_ _ | refine blk_drew ?_ | refine blk_alloc ?_ _)); refine blk_put (cs := #[.int .i64 t212, .int .i64 0, .slice none 0 0]) ?_ 1 _ rfl; (with_reducible repeat (first | refine blk_drewN ?_ _ | refine blk_drew ?_ | refine blk_alloc ?_ _)); refine blk_put (cs := #[.int .i64 0, .int .i64 0, .slice none 0 0]) ?_ 0 _ rfl; (with_reducible repeat (first | refine blk_drewN ?_ _ | refine blk_drew ?_ | refine blk_alloc ?_ _)); exact BK217.out))⟩; have n6_ : Aside0 (Below w.heap.size w w1020) := ⟨(by rw [hw]; exact wB)⟩; clear hw; clear HO204; clear HO209; clear HO216; clear BK198; clear BK211; clear BK217; clear HB; have HO204 := n0_; have HO209 := n1_; have HO216 := n2_; have BK198 := n3_; have BK211 := n4_; have BK217 := n5_; have HB := n6_; clear n0_ n1_ n2_ n3_ n4_ n5_ n6_; obtain ⟨⟨hcz1021_0, hcz1021_1, hcz1021_2⟩, hfz1021_0, hfz1021_1, hfz1021_2⟩ := cells3 BK217.out) | ((with_reducible refine gate_callee (f := 39) rfl ?_); refine goesL_ (some 29) rfl rfl Try.func39 (by kernel_rfl) rfl #[.agg #[.int .i64 t212, .int .i64 t213, .slice Ao1019 t214.length co1019]] rfl wT ?_; (with_reducible refine (impl_BoardTimeout.calls k t212 t213 _ _ t214 t218 t219 t220 t223 _ ?side1 ?side2 A7.out).mono ?_); (case side1 => exact Ch HO216); (case side2 => exact (Kd.R_reads' HO216.out).2.1); rintro e w1022 ⟨v221, rfl, ho0, hb⟩; refine ⟨_, rfl, ?_⟩; have n0_ := Aside0.mk (Kd.R_elder' (Rh HO204) (Kd.R_base ho0) hb); have n1_ := Aside0.mk (Kd.R_elder' (Rh HO209) (Kd.R_base ho0) hb); have n2_ := Aside0.mk (Kd.R_elder' (Rh HO216) (Kd.R_base ho0) hb); have n3_ := Aside0.mk (Kd.R_lower (Kd.R_new' (Kd.R_new' (Kd.R_new' ho0 (Kd.R_lt (Rh HO204))) (Kd.R_lt (Rh HO209))) (Kd.R_lt (Rh HO216))) (below_size wB)); have n4_ := Aside0.mk (blk_below (Bh BK198) hb); have n5_ := Aside0.mk (blk_below (Bh BK211) hb); have n6_ := Aside0.mk (blk_below (Bh BK217) hb); have n7_ := Aside0.mk (below_step wB hb); clear HO204; clear HO209; clear HO216; clear BK198; clear BK211; clear BK217; clear HB; have HO204 := n0_; have HO209 := n1_; have HO216 := n2_; have HO222 := n3_; have BK198 := n4_; have BK211 := n5_; have BK217 := n6_; have HB := n7_; clear n0_ n1_ n2_ n3_ n4_ n5_ n6_ n7_; (try clear hb); (try clear hb2); (try clear hk); (try clear hi); (try clear ho0)) | ((with_reducible refine gate_dst (N := 7) rfl ?_); refine box_event ?hg (N := 7) ?hd (cs := #[.int .i64 0, .int .i64 0, .slice none 0 0]) (t := 63) ?hr ?_; (case hd => rfl); (case hg => rfl); (case hr => first | (go_simp; done) | (go_simp; rfl)); intro gb224 hg w1023 hbox hb; have n0_ := Aside0.mk (Kd.R_below (Rh HO204) hb); have n1_ := Aside0.mk (Kd.R_below (Rh HO209) hb); have n2_ := Aside0.mk (Kd.R_below (Rh HO216) hb); have n3_ := Aside0.mk (Kd.R_below (Rh HO222) hb); have n4_ := Aside0.mk (blk_below (Bh BK198) hb); have n5_ := Aside0.mk (blk_below (Bh BK211) hb); have n6_ := Aside0.mk (blk_below (Bh BK217) hb); have n7_ := Aside0.mk (below_step wB hb); have n8_ := Aside0.mk (hbox); have n9_ := Aside0.mk ((by rw [hg]; exact (below_size wB) : w.heap.size ≤ gb224)); have n10_ := Aside0.mk ((by rw [hg]; exact (below_size wB) : w.heap.size ≤ gb224)); have n11_ := Aside0.mk ((by rw [hg]; exact Nat.ne_of_lt (blk_lt (Bh BK198)) : gb198 ≠ gb224)); have n12_ := Aside0.mk ((by rw [hg]; exact Nat.ne_of_gt (blk_lt (Bh BK198)) : gb224 ≠ gb198)); have n13_ := Aside0.mk ((by rw [hg]; exact Nat.ne_of_lt (blk_lt (Bh BK211)) : gb211 ≠ gb224)); have n14_ := Aside0.mk ((by rw [hg]; exact Nat.ne_of_gt (blk_lt (Bh BK211)) : gb224 ≠ gb211)); have n15_ := Aside0.mk ((by rw [hg]; exact Nat.ne_of_lt (blk_lt (Bh BK217)) : gb217 ≠ gb224)); have n16_ := Aside0.mk ((by rw [hg]; exact Nat.ne_of_gt (blk_lt (Bh BK217)) : gb224 ≠ gb217)); clear HO204; clear HO209; clear HO216; clear HO222; clear BK198; clear BK211; clear BK217; clear HB; have HO204 := n0_; have HO209 := n1_; have HO216 := n2_; have HO222 := n3_; have BK198 := n4_; have BK211 := n5_; have BK217 := n6_; have HB := n7_; have BK224 := n8_; have GW224 := n9_; have GE224 := n10_; have NB198_224 := n11_; have NB224_198 := n12_; have NB211_224 := n13_; have NB224_211 := n14_; have NB217_224 := n15_; have NB224_217 := n16_; clear n0_ n1_ n2_ n3_ n4_ n5_ n6_ n7_ n8_ n9_ n10_ n11_ n12_ n13_ n14_ n15_ n16_; clear hb hbox hg; have hnb1024 := NB224_198.out; have hnc1024 := NB198_224.out; have hnb1025 := NB224_211.out; have hnc1025 := NB211_224.out; have hnb1026 := NB224_217.out; have hnc1026 := NB217_224.out; obtain ⟨⟨hcz1027_0, hcz1027_1, hcz1027_2⟩, hfz1027_0, hfz1027_1, hfz1027_2⟩ := cells3 BK224.out; obtain ⟨Ao1028, co1028, eo1028⟩ := Kd.R_slice HO222.out; subst eo1028) | ((with_reducible refine gate_store (t := 63) (p := 7) rfl ?_); (try (rw [drewN_self w1023]; generalize hq_ : World.drewN w1023 _ = w1023; have n0_ := Aside0.mk (Kd.R_at hq_ HO204.out); have n1_ := Aside0.mk (Kd.R_at hq_ HO209.out); have n2_ := Aside0.mk (Kd.R_at hq_ HO216.out); have n3_ := Aside0.mk (Kd.R_at hq_ HO222.out); have n4_ := Aside0.mk (blk_at hq_ BK198.out); have n5_ := Aside0.mk (blk_at hq_ BK211.out); have n6_ := Aside0.mk (blk_at hq_ BK217.out); have n7_ := Aside0.mk (blk_at hq_ BK224.out); have n8_ := Aside0.mk (below_at hq_ HB.out); clear hq_ HO204 HO209 HO216 HO222 BK198 BK211 BK217 BK224 HB; have HO204 := n0_; have HO209 := n1_; have HO216 := n2_; have HO222 := n3_; have BK198 := n4_; have BK211 := n5_; have BK217 := n6_; have BK224 := n7_; have HB := n8_; clear n0_ n1_ n2_ n3_ n4_ n5_ n6_ n7_ n8_; (try (obtain ⟨⟨hcyBK198_0, hcyBK198_1, hcyBK198_2⟩, hfyBK198_0, hfyBK198_1, hfyBK198_2⟩ := cells3 BK198.out)); (try (obtain ⟨⟨hcyBK211_0, hcyBK211_1, hcyBK211_2⟩, hfyBK211_0, hfyBK211_1, hfyBK211_2⟩ := cells3 BK211.out)); (try (obtain ⟨⟨hcyBK217_0, hcyBK217_1, hcyBK217_2⟩, hfyBK217_0, hfyBK217_1, hfyBK217_2⟩ := cells3 BK217.out)); (try (obtain ⟨⟨hcyBK224_0, hcyBK224_1, hcyBK224_2⟩, hfyBK224_0, hfyBK224_1, hfyBK224_2⟩ := cells3 BK224.out)))); refine store_event (t := 63) (p := 7) (v := ?_) (w1 := (((w1023.setCell ⟨gb224, 0, none⟩ (.int .i64 t218)).setCell ⟨gb224, 1, none⟩ (.int .i64 t219)).setCell ⟨gb224, 2, none⟩ (.slice Ao1028 t220.length co1028))) ?hg ?ho ?hn ?hr ?_; (case ho => rfl); (case hg => rfl); (case hn => rfl); (case hr => first | (go_simp; done) | (go_simp; rfl)); intro w1029 hw; have n0_ : Aside0 (Kd.R k85 85 w1029 w.heap.size (fun k_ => some k_ ≠ (.slice Ao1011 t207.length co1011 : Value).ownBlock ∧ some k_ ≠ (.slice Ao1019 t214.length co1019 : Value).ownBlock ∧ some k_ ≠ (.slice Ao1028 t220.length co1028 : Value).ownBlock) (.slice Ao1006 t202.length co1006) t202) := ⟨(by rw [hw]; exact (by (with_reducible repeat (first | apply Kd.R_alloc | apply Kd.R_drewN | apply Kd.R_drew)); exact Kd.R_mono (Kd.R_far (p := ⟨gb224, 2, none⟩) (Kd.R_far (p := ⟨gb224, 1, none⟩) (Kd.R_far (p := ⟨gb224, 0, none⟩) (Kd.R_types HO204.out BK224.out (by decide)) (fun _ hk => hk.2) (.int .i64 t218)) (fun _ hk => hk.2) (.int .i64 t219)) (fun _ hk => hk.2) (.slice Ao1028 t220.length co1028)) (fun _ hk => ⟨hk.1.1.1, ⟨hk.1.1.2, hk.1.2⟩⟩)))⟩; have n1_ : Aside0 (Kd.R k85 85 w1029 w.heap.size (fun k_ => some k_ ≠ (.slice Ao1006 t202.length co1006 : Value).ownBlock ∧ some k_ ≠ (.slice Ao1019 t214.length co1019 : Value).ownBlock ∧ some k_ ≠ (.slice Ao1028 t220.length co1028 : Value).ownBlock) (.slice Ao1011 t207.length co1011) t207) := ⟨(by rw [hw]; exact (by (with_reducible repeat (first | apply Kd.R_alloc | apply Kd.R_drewN | apply Kd.R_drew)); exact Kd.R_mono (Kd.R_far (p := ⟨gb224, 2, none⟩) (Kd.R_far (p := ⟨gb224, 1, none⟩) (Kd.R_far (p := ⟨gb224, 0, none⟩) (Kd.R_types HO209.out BK224.out (by decide)) (fun _ hk => hk.2) (.int .i64 t218)) (fun _ hk => hk.2) (.int .i64 t219)) (fun _ hk => hk.2) (.slice Ao1028 t220.length co1028)) (fun _ hk => ⟨hk.1.1.1, ⟨hk.1.1.2, hk.1.2⟩⟩)))⟩; have n2_ : Aside0 (Kd.R k85 85 w1029 w.heap.size (fun k_ => some k_ ≠ (.slice Ao1006 t202.length co1006 : Value).ownBlock ∧ some k_ ≠ (.slice Ao1011 t207.length co1011 : Value).ownBlock ∧ some k_ ≠ (.slice Ao1028 t220.length co1028 : Value).ownBlock) (.slice Ao1019 t214.length co1019) t214) := ⟨(by rw [hw]; exact (by (with_reducible repeat (first | apply Kd.R_alloc | apply Kd.R_drewN | apply Kd.R_drew)); exact Kd.R_mono (Kd.R_far (p := ⟨gb224, 2, none⟩) (Kd.R_far (p := ⟨gb224, 1, none⟩) (Kd.R_far (p := ⟨gb224, 0, none⟩) (Kd.R_types HO216.out BK224.out (by decide)) (fun _ hk => hk.2) (.int .i64 t218)) (fun _ hk => hk.2) (.int .i64 t219)) (fun _ hk => hk.2) (.slice Ao1028 t220.length co1028)) (fun _ hk => ⟨hk.1.1.1, ⟨hk.1.1.2, hk.1.2⟩⟩)))⟩; have n3_ : Aside0 (Kd.R k85 85 w1029 w.heap.size (fun k_ => some k_ ≠ (.slice Ao1006 t202.length co1006 : Value).ownBlock ∧ some k_ ≠ (.slice Ao1011 t207.length co1011 : Value).ownBlock ∧ some k_ ≠ (.slice Ao1019 t214.length co1019 : Value).ownBlock) (.slice Ao1028 t220.length co1028) t220) := ⟨(by rw [hw]; exact (by (with_reducible repeat (first | apply Kd.R_alloc | apply Kd.R_drewN | apply Kd.R_drew)); exact Kd.R_mono (Kd.R_far (p := ⟨gb224, 2, none⟩) (Kd.R_far (p := ⟨gb224, 1, none⟩) (Kd.R_far (p := ⟨gb224, 0, none⟩) (Kd.R_types HO222.out BK224.out (by decide)) (fun _ hk => hk.2) (.int .i64 t218)) (fun _ hk => hk.2) (.int .i64 t219)) (fun _ hk => hk.2) (.slice Ao1028 t220.length co1028)) (fun _ hk => ⟨hk.1.1.1.2, ⟨hk.1.1.2, hk.1.2⟩⟩)))⟩; have n4_ : Aside0 (w1029.heap[gb198]? = some (.cells #[.int .i64 a0_0, .int .i64 a0_1, .slice A0_2 l0_2.length c0_2] 59 (0, 0))) := ⟨(by rw [hw]; exact (by (with_reducible repeat (first | refine blk_drewN ?_ _ | refine blk_drew ?_ | refine blk_alloc ?_ _)); refine blk_far ?_ NB198_224.out _; (with_reducible repeat (first | refine blk_drewN ?_ _ | refine blk_drew ?_ | refine blk_alloc ?_ _)); refine blk_far ?_ NB198_224.out _; (with_reducible repeat (first | refine blk_drewN ?_ _ | refine blk_drew ?_ | refine blk_alloc ?_ _)); refine blk_far ?_ NB198_224.out _; (with_reducible repeat (first | refine blk_drewN ?_ _ | refine blk_drew ?_ | refine blk_alloc ?_ _)); exact BK198.out))⟩; have n5_ : Aside0 (w1029.heap[gb211]? = some (.cells #[.int .i64 t205, .int .i64 t206, .slice Ao1011 t207.length co1011] 63 (0, 0))) := ⟨(by rw [hw]; exact (by (with_reducible repeat (first | refine blk_drewN ?_ _ | refine blk_drew ?_ | refine blk_alloc ?_ _)); refine blk_far ?_ NB211_224.out _; (with_reducible repeat (first | refine blk_drewN ?_ _ | refine blk_drew ?_ | refine blk_alloc ?_ _)); refine blk_far ?_ NB211_224.out _; (with_reducible repeat (first | refine blk_drewN ?_ _ | refine blk_drew ?_ | refine blk_alloc ?_ _)); refine blk_far ?_ NB211_224.out _; (with_reducible repeat (first | refine blk_drewN ?_ _ | refine blk_drew ?_ | refine blk_alloc ?_ _)); exact BK211.out))⟩; have n6_ : Aside0 (w1029.heap[gb217]? = some (.cells #[.int .i64 t212, .int .i64 t213, .slice Ao1019 t214.length co1019] 63 (0, 0))) := ⟨(by rw [hw]; exact (by (with_reducible repeat (first | refine blk_drewN ?_ _ | refine blk_drew ?_ | refine blk_alloc ?_ _)); refine blk_far ?_ NB217_224.out _; (with_reducible repeat (first | refine blk_drewN ?_ _ | refine blk_drew ?_ | refine blk_alloc ?_ _)); refine blk_far ?_ NB217_224.out _; (with_reducible repeat (first | refine blk_drewN ?_ _ | refine blk_drew ?_ | refine blk_alloc ?_ _)); refine blk_far ?_ NB217_224.out _; (with_reducible repeat (first | refine blk_drewN ?_ _ | refine blk_drew ?_ | refine blk_alloc ?_ _)); exact BK217.out))⟩; have n7_ : Aside0 (w1029.heap[gb224]? = some (.cells #[.int .i64 t218, .int .i64 t219, .slice Ao1028 t220.length co1028] 63 (0, 0))) := ⟨(by rw [hw]; exact (by (with_reducible repeat (first | refine blk_drewN ?_ _ | refine blk_drew ?_ | refine blk_alloc ?_ _)); refine blk_put (cs := #[.int .i64 t218, .int .i64 t219, .slice none 0 0]) ?_ 2 _ rfl; (with_reducible repeat (first | refine blk_drewN ?_ _ | refine blk_drew ?_ | refine blk_alloc ?_ _)); refine blk_put (cs := #[.int .i64 t218, .int .i64 0, .slice none 0 0]) ?_ 1 _ rfl; (with_reducible repeat (first | refine blk_drewN ?_ _ | refine blk_drew ?_ | refine blk_alloc ?_ _)); refine blk_put (cs := #[.int .i64 0, .int .i64 0, .slice none 0 0]) ?_ 0 _ rfl; (with_reducible repeat (first | refine blk_drewN ?_ _ | refine blk_drew ?_ | refine blk_alloc ?_ _)); exact BK224.out))⟩; have n8_ : Aside0 (Below w.heap.size w w1029) := ⟨(by rw [hw]; exact wB)⟩; clear hw; clear HO204; clear HO209; clear HO216; clear HO222; clear BK198; clear BK211; clear BK217; clear BK224; clear HB; have HO204 := n0_; have HO209 := n1_; have HO216 := n2_; have HO222 := n3_; have BK198 := n4_; have BK211 := n5_; have BK217 := n6_; have BK224 := n7_; have HB := n8_; clear n0_ n1_ n2_ n3_ n4_ n5_ n6_ n7_ n8_))
 (try simp only [Act.put, List.setIfInBounds_toArray, List.set_cons_zero, List.set_cons_succ])
 go_cut [40] (fun v40 wc => ∃ (kq : Nat) (x40_7 : Bool), v40 = .bool x40_7 ∧ Aside0 (laws_FnExactBoardTimeout.j0 kq t210 t223 x40_7 a0_0 a0_1 l0_2 t205 t206 t207 t212 t213 t214 t218 t219 t220 = some r) ∧ Aside0 (kq ≤ k) ∧ Aside0 (Kd.R k85 85 wc w.heap.size (fun k_ => some k_ ≠ ((.slice Ao1019 t214.length co1019) : Value).ownBlock ∧ some k_ ≠ ((.slice Ao1028 t220.length co1028) : Value).ownBlock) (.slice Ao1011 t207.length co1011) t207) ∧ Aside0 (Kd.R k85 85 wc w.heap.size (fun k_ => some k_ ≠ ((.slice Ao1011 t207.length co1011) : Value).ownBlock ∧ some k_ ≠ ((.slice Ao1028 t220.length co1028) : Value).ownBlock) (.slice Ao1019 t214.length co1019) t214) ∧ Aside0 (Kd.R k85 85 wc w.heap.size (fun k_ => some k_ ≠ ((.slice Ao1011 t207.length co1011) : Value).ownBlock ∧ some k_ ≠ ((.slice Ao1019 t214.length co1019) : Value).ownBlock) (.slice Ao1028 t220.length co1028) t220) ∧ Aside0 (wc.heap[gb198]? = some (.cells #[.int .i64 a0_0, .int .i64 a0_1, (.slice A0_2 l0_2.length c0_2)] 59 (0, 0))) ∧ Aside0 (wc.heap[gb211]? = some (.cells #[.int .i64 t205, .int .i64 t206, (.slice Ao1011 t207.length co1011)] 63 (0, 0))) ∧ Aside0 (wc.heap[gb217]? = some (.cells #[.int .i64 t212, .int .i64 t213, (.slice Ao1019 t214.length co1019)] 63 (0, 0))) ∧ Aside0 (wc.heap[gb224]? = some (.cells #[.int .i64 t218, .int .i64 t219, (.slice Ao1028 t220.length co1028)] 63 (0, 0))) ∧ Aside0 (Below w.heap.size w wc))
 case first => (
 have H := HC8.out
 clear HC8
 replace H := Option.bind_eq_some_iff.mp H
 obtain ⟨t225, A10300, H⟩ := H
 replace H : (if t225 = true then (laws_FnExactBoardTimeout.j0 k t210 t223 (t223 != t210) a0_0 a0_1 l0_2 t205 t206 t207 t212 t213 t214 t218 t219 t220) else (laws_FnExactBoardTimeout.j0 k t210 t223 true a0_0 a0_1 l0_2 t205 t206 t207 t212 t213 t214 t218 t219 t220)) = some r := H
 have A1030 := Aside0.mk A10300
 clear A10300
 by_cases c1031 : t225 = true
 subst c1031
 have H1 : (laws_FnExactBoardTimeout.j0 k t210 t223 (t223 != t210) a0_0 a0_1 l0_2 t205 t206 t207 t212 t213 t214 t218 t219 t220) = some r := by rw [if_pos rfl] at H; exact H
 clear H
 have H := H1
 clear H1
 have H' := Aside0.mk H
 clear H
 rotate_left
 replace c1031 := Bool.eq_false_iff.mpr c1031
 subst c1031
 have H1 : (laws_FnExactBoardTimeout.j0 k t210 t223 true a0_0 a0_1 l0_2 t205 t206 t207 t212 t213 t214 t218 t219 t220) = some r := by rw [if_neg (show ¬ (false = true) by decide)] at H; exact H
 clear H
 have H := H1
 clear H1
 have H' := Aside0.mk H
 clear H
 rotate_left
 all_goals (
 have hnb2001 := NB224_198.out
 have hnc2001 := NB198_224.out
 have hnb2002 := NB224_211.out
 have hnc2002 := NB211_224.out
 have hnb2003 := NB224_217.out
 have hnc2003 := NB217_224.out
 obtain ⟨⟨hcz2004_0, hcz2004_1, hcz2004_2⟩, hfz2004_0, hfz2004_1, hfz2004_2⟩ := cells3 BK224.out
 have hnb2005 := NB211_198.out
 have hnc2005 := NB198_211.out
 have hnb2006 := NB211_217.out
 have hnc2006 := NB217_211.out
 obtain ⟨⟨hcz2007_0, hcz2007_1, hcz2007_2⟩, hfz2007_0, hfz2007_1, hfz2007_2⟩ := cells3 BK211.out
 go_wp2_with (first | ((with_reducible refine gate_callee (f := 40) rfl ?_); refine goesL_ (some 34) rfl rfl Try.func40 (by kernel_rfl) rfl #[.agg #[.int .i64 t218, .int .i64 t219, .slice Ao1028 t220.length co1028], .agg #[.int .i64 t205, .int .i64 t206, .slice Ao1011 t207.length co1011]] rfl wT ?_; (with_reducible refine (laws_eqBoard.calls k t218 t219 _ _ t220 t205 t206 _ _ t207 _ _ ?side1 ?side2 ?side3 ?side4 A1030.out).mono ?_); (case side1 => exact Ch HO222); (case side2 => exact (Kd.R_reads' HO222.out).2.1); (case side3 => exact Ch HO209); (case side4 => exact (Kd.R_reads' HO209.out).2.1); rintro e w2008 ⟨rfl, hb⟩; refine ⟨_, rfl, ?_⟩; have n0_ := Aside0.mk (Kd.R_below (Rh HO204) hb); have n1_ := Aside0.mk (Kd.R_below (Rh HO209) hb); have n2_ := Aside0.mk (Kd.R_below (Rh HO216) hb); have n3_ := Aside0.mk (Kd.R_below (Rh HO222) hb); have n4_ := Aside0.mk (blk_below (Bh BK198) hb); have n5_ := Aside0.mk (blk_below (Bh BK211) hb); have n6_ := Aside0.mk (blk_below (Bh BK217) hb); have n7_ := Aside0.mk (blk_below (Bh BK224) hb); have n8_ := Aside0.mk (below_step wB hb); clear HO204; clear HO209; clear HO216; clear HO222; clear BK198; clear BK211; clear BK217; clear BK224; clear HB; have HO204 := n0_; have HO209 := n1_; have HO216 := n2_; have HO222 := n3_; have BK198 := n4_; have BK211 := n5_; have BK217 := n6_; have BK224 := n7_; have HB := n8_; clear n0_ n1_ n2_ n3_ n4_ n5_ n6_ n7_ n8_; (try clear hb); (try clear hb2); (try clear hk); (try clear hi)))
 go_meet
 )
 {
 case rel => exact ⟨_, ((t223 != t210)), (by first | rfl | (simp; done) | (simp [*]; done)), H', ⟨by first | omega | exact Nat.le_refl _⟩, ⟨Kd.R_mono (Rh HO209) (fun _ hk => ⟨hk.2.1, hk.2.2⟩)⟩, ⟨Kd.R_mono (Rh HO216) (fun _ hk => ⟨hk.2.1, hk.2.2⟩)⟩, ⟨Kd.R_mono (Rh HO222) (fun _ hk => ⟨hk.2.1, hk.2.2⟩)⟩, ⟨Bh BK198⟩, ⟨Bh BK211⟩, ⟨Bh BK217⟩, ⟨Bh BK224⟩, ⟨wB⟩⟩
 }
 {
 case rel => exact ⟨_, (true), (by first | rfl | (simp; done) | (simp [*]; done)), H', ⟨by first | omega | exact Nat.le_refl _⟩, ⟨Kd.R_mono (Rh HO209) (fun _ hk => ⟨hk.2.1, hk.2.2⟩)⟩, ⟨Kd.R_mono (Rh HO216) (fun _ hk => ⟨hk.2.1, hk.2.2⟩)⟩, ⟨Kd.R_mono (Rh HO222) (fun _ hk => ⟨hk.2.1, hk.2.2⟩)⟩, ⟨Bh BK198⟩, ⟨Bh BK211⟩, ⟨Bh BK217⟩, ⟨Bh BK224⟩, ⟨wB⟩⟩
 }
 )
 case rest => (
 clear HC8
 try clear c0
 try clear c3
 try clear c3b0
 try clear c1031
 try clear hcz1002_0 hcz1002_1 hcz1002_2 hfz1002_0 hfz1002_1 hfz1002_2
 try clear hcz1004_0 hcz1004_1 hcz1004_2 hfz1004_0 hfz1004_1 hfz1004_2
 try clear hcz1010_0 hcz1010_1 hcz1010_2 hfz1010_0 hfz1010_1 hfz1010_2
 try clear hcz1013_0 hcz1013_1 hcz1013_2 hfz1013_0 hfz1013_1 hfz1013_2
 try clear hcz1018_0 hcz1018_1 hcz1018_2 hfz1018_0 hfz1018_1 hfz1018_2
 try clear hcz1021_0 hcz1021_1 hcz1021_2 hfz1021_0 hfz1021_1 hfz1021_2
 try clear hcz1027_0 hcz1027_1 hcz1027_2 hfz1027_0 hfz1027_1 hfz1027_2
 try clear hcz2004_0 hcz2004_1 hcz2004_2 hfz2004_0 hfz2004_1 hfz2004_2
 try clear hcz2007_0 hcz2007_1 hcz2007_2 hfz2007_0 hfz2007_1 hfz2007_2
 obtain ⟨kq, x40_7, rfl, HA, HJ7, HO_212002, HO_218002, HO_225002, BK198, BK211, BK217, BK224, HB⟩ := hcut
 cases kq with
 | zero => exact absurd HA.out (by simp [laws_FnExactBoardTimeout.j0])
 | succ kj7 => {
 have H := HA.out
 clear HA
 simp only [laws_FnExactBoardTimeout.j0] at H
 by_cases c1032 : x40_7 = true
 subst c1032
 have H1 : (some false) = some r := by rw [if_pos rfl] at H; exact H
 clear H
 have H := H1
 clear H1
 obtain rfl := Option.some.inj H
 rotate_left
 replace c1032 := Bool.eq_false_iff.mpr c1032
 subst c1032
 have H1 : ((laws_toBoard.f kj7 a0_0 a0_1 l0_2).bind fun bt226 => ((laws_eqBoard.f kj7 t212 t213 t214 bt226.1 bt226.2.1 bt226.2.2).bind fun t231 => (if t231 = true then ((laws_markBoard.f kj7 t212 t213 t214 1).bind fun bt232 => (if bt232.1 < 0 then (laws_FnExactBoardTimeout.j1 kj7 t210 true a0_0 a0_1 l0_2 t205 t206 t207 t218 t219 t220) else ((laws_eqBoard.f kj7 t218 t219 t220 t205 t206 t207).bind fun t234 => (if t234 = true then (laws_FnExactBoardTimeout.j1 kj7 t210 (t223 != t210) a0_0 a0_1 l0_2 t205 t206 t207 t218 t219 t220) else (laws_FnExactBoardTimeout.j1 kj7 t210 true a0_0 a0_1 l0_2 t205 t206 t207 t218 t219 t220))))) else (some false)))) = some r := by rw [if_neg (show ¬ (false = true) by decide)] at H; exact H
 clear H
 have H := H1
 clear H1
 replace H := Option.bind_eq_some_iff.mp H
 obtain ⟨⟨t226, t227, t228⟩, A10330, H⟩ := H
 replace H : ((laws_eqBoard.f kj7 t212 t213 t214 t226 t227 t228).bind fun t231 => (if t231 = true then ((laws_markBoard.f kj7 t212 t213 t214 1).bind fun bt232 => (if bt232.1 < 0 then (laws_FnExactBoardTimeout.j1 kj7 t210 true a0_0 a0_1 l0_2 t205 t206 t207 t218 t219 t220) else ((laws_eqBoard.f kj7 t218 t219 t220 t205 t206 t207).bind fun t234 => (if t234 = true then (laws_FnExactBoardTimeout.j1 kj7 t210 (t223 != t210) a0_0 a0_1 l0_2 t205 t206 t207 t218 t219 t220) else (laws_FnExactBoardTimeout.j1 kj7 t210 true a0_0 a0_1 l0_2 t205 t206 t207 t218 t219 t220))))) else (some false))) = some r := H
 have A1033 := Aside0.mk A10330
 clear A10330
 replace H := Option.bind_eq_some_iff.mp H
 obtain ⟨t231, A10340, H⟩ := H
 replace H : (if t231 = true then ((laws_markBoard.f kj7 t212 t213 t214 1).bind fun bt232 => (if bt232.1 < 0 then (laws_FnExactBoardTimeout.j1 kj7 t210 true a0_0 a0_1 l0_2 t205 t206 t207 t218 t219 t220) else ((laws_eqBoard.f kj7 t218 t219 t220 t205 t206 t207).bind fun t234 => (if t234 = true then (laws_FnExactBoardTimeout.j1 kj7 t210 (t223 != t210) a0_0 a0_1 l0_2 t205 t206 t207 t218 t219 t220) else (laws_FnExactBoardTimeout.j1 kj7 t210 true a0_0 a0_1 l0_2 t205 t206 t207 t218 t219 t220))))) else (some false)) = some r := H
 have A1034 := Aside0.mk A10340
 clear A10340
 by_cases c1035 : t231 = true
 subst c1035
 have H1 : ((laws_markBoard.f kj7 t212 t213 t214 1).bind fun bt232 => (if bt232.1 < 0 then (laws_FnExactBoardTimeout.j1 kj7 t210 true a0_0 a0_1 l0_2 t205 t206 t207 t218 t219 t220) else ((laws_eqBoard.f kj7 t218 t219 t220 t205 t206 t207).bind fun t234 => (if t234 = true then (laws_FnExactBoardTimeout.j1 kj7 t210 (t223 != t210) a0_0 a0_1 l0_2 t205 t206 t207 t218 t219 t220) else (laws_FnExactBoardTimeout.j1 kj7 t210 true a0_0 a0_1 l0_2 t205 t206 t207 t218 t219 t220))))) = some r := by rw [if_pos rfl] at H; exact H
 clear H
 have H := H1
 clear H1
 replace H := Option.bind_eq_some_iff.mp H
 obtain ⟨⟨t232, t233⟩, A10360, H⟩ := H
 replace H : (if t232 < 0 then (laws_FnExactBoardTimeout.j1 kj7 t210 true a0_0 a0_1 l0_2 t205 t206 t207 t218 t219 t220) else ((laws_eqBoard.f kj7 t218 t219 t220 t205 t206 t207).bind fun t234 => (if t234 = true then (laws_FnExactBoardTimeout.j1 kj7 t210 (t223 != t210) a0_0 a0_1 l0_2 t205 t206 t207 t218 t219 t220) else (laws_FnExactBoardTimeout.j1 kj7 t210 true a0_0 a0_1 l0_2 t205 t206 t207 t218 t219 t220)))) = some r := H
 have A1036 := Aside0.mk A10360
 clear A10360
 have HC1037 := Aside0.mk H
 clear H
 rotate_left
 replace c1035 := Bool.eq_false_iff.mpr c1035
 subst c1035
 have H1 : (some false) = some r := by rw [if_neg (show ¬ (false = true) by decide)] at H; exact H
 clear H
 have H := H1
 clear H1
 obtain rfl := Option.some.inj H
 rotate_left
 all_goals (
 try go_wp2
 )
 {
 go_ret
 exact ⟨by first | rfl | (simp [errW_none, errW_some] <;> rfl) | (simp [*, errW_none, errW_some] <;> rfl), wB⟩
 }
 all_goals (
 have n0_ := Aside0.mk (Kd.R_drew HO_212002.out)
 have n1_ := Aside0.mk (Kd.R_drew HO_218002.out)
 have n2_ := Aside0.mk (Kd.R_drew HO_225002.out)
 have n3_ := Aside0.mk (blk_drew BK198.out)
 have n4_ := Aside0.mk (blk_drew BK211.out)
 have n5_ := Aside0.mk (blk_drew BK217.out)
 have n6_ := Aside0.mk (blk_drew BK224.out)
 have n7_ := Aside0.mk (below_drew1 HB.out)
 clear HO_212002
 clear HO_218002
 clear HO_225002
 clear BK198
 clear BK211
 clear BK217
 clear BK224
 clear HB
 have HO_212002 := n0_
 have HO_218002 := n1_
 have HO_225002 := n2_
 have BK198 := n3_
 have BK211 := n4_
 have BK217 := n5_
 have BK224 := n6_
 have HB := n7_
 clear n0_ n1_ n2_ n3_ n4_ n5_ n6_ n7_
 refine start_ (n := 5) (S := fun w' => w'.cell? ⟨gb217, 0, none⟩ = some (.int .i64 t212) ∧ w'.cell? ⟨gb217, 1, none⟩ = some (.int .i64 t213) ∧ w'.cell? ⟨gb217, 2, none⟩ = some (.slice Ao1019 t214.length co1019) ∧ w'.cell? ⟨gb198, 0, none⟩ = some (.int .i64 a0_0) ∧ w'.cell? ⟨gb198, 1, none⟩ = some (.int .i64 a0_1) ∧ w'.cell? ⟨gb198, 2, none⟩ = some (.slice A0_2 l0_2.length c0_2)) (ds := []) #[false, false, false, false, false] (by kernel_rfl) rfl rfl ⟨(blk_cell BK217.out 0).trans rfl, (blk_cell BK217.out 1).trans rfl, (blk_cell BK217.out 2).trans rfl, (blk_cell BK198.out 0).trans rfl, (blk_cell BK198.out 1).trans rfl, (blk_cell BK198.out 2).trans rfl⟩ (fun hHeld => ?_)
 generalize wc.drew = w2001 at HO_212002 HO_218002 HO_225002 BK198 BK211 BK217 BK224 HB hHeld ⊢
 refine take_ (i := 0) (N := some 41) (v := ?_) (a' := ?_) #[true, false, false, false, false] rfl rfl (by kernel_rfl) (fun _ _ _ h => h) (Or.inl ⟨by rfl, ?_⟩) hHeld ?_ ?_
 rotate_left
 {
 rintro w' ⟨s0, s1, s2, s3, s4, s5⟩
 go_simp
 with_reducible rfl
 }
 rotate_left
 {
 simp only [Act.put, List.setIfInBounds_toArray, List.set_cons_zero, List.set_cons_succ, i64_w, i32_w]
 rfl
 }
 refine take_ (i := 1) (N := some 42) (v := ?_) (a' := ?_) #[true, true, false, false, false] rfl rfl (by kernel_rfl) (fun _ _ _ h => h) (Or.inl ⟨by rfl, ?_⟩) hHeld ?_ ?_
 rotate_left
 {
 rintro w' ⟨s0, s1, s2, s3, s4, s5⟩
 go_simp
 with_reducible rfl
 }
 rotate_left
 {
 simp only [Act.put, List.setIfInBounds_toArray, List.set_cons_zero, List.set_cons_succ, i64_w, i32_w]
 rfl
 }
 refine one_ (i := 2) (N := some 43) #[true, true, true, false, false] rfl rfl (by kernel_rfl) (by decide) (fun K hK => ?_)
 refine goes_ Try.func38 (by kernel_rfl) rfl #[.agg #[.int .i64 a0_0, .int .i64 a0_1, .slice A0_2 l0_2.length c0_2]] (by rfl) rfl rfl wT ?_
 with_reducible refine (laws_toBoard.calls kj7 a0_0 a0_1 _ _ l0_2 t226 t227 t228 _ ?side1 ?side2 A1033.out).mono ?_
 (case side1 => exact Kd.C_below HR0_2.out wB)
 (case side2 => exact HC0_2.out)
 rintro e w2002 ⟨v229, rfl, ho0, hb⟩
 refine ⟨_, rfl, ?_⟩
 have n0_ := Aside0.mk (Kd.R_elder' (Rh HO_212002) (Kd.R_base ho0) hb)
 have n1_ := Aside0.mk (Kd.R_elder' (Rh HO_218002) (Kd.R_base ho0) hb)
 have n2_ := Aside0.mk (Kd.R_elder' (Rh HO_225002) (Kd.R_base ho0) hb)
 have n3_ := Aside0.mk (Kd.R_lower (Kd.R_new' (Kd.R_new' (Kd.R_new' ho0 (Kd.R_lt (Rh HO_212002))) (Kd.R_lt (Rh HO_218002))) (Kd.R_lt (Rh HO_225002))) (below_size wB))
 have n4_ := Aside0.mk (blk_below (Bh BK198) hb)
 have n5_ := Aside0.mk (blk_below (Bh BK211) hb)
 have n6_ := Aside0.mk (blk_below (Bh BK217) hb)
 have n7_ := Aside0.mk (blk_below (Bh BK224) hb)
 have n8_ := Aside0.mk (below_step wB hb)
 clear HO_212002
 clear HO_218002
 clear HO_225002
 clear BK198
 clear BK211
 clear BK217
 clear BK224
 clear HB
 have HO_212002 := n0_
 have HO_218002 := n1_
 have HO_225002 := n2_
 have HO230 := n3_
 have BK198 := n4_
 have BK211 := n5_
 have BK217 := n6_
 have BK224 := n7_
 have HB := n8_
 clear n0_ n1_ n2_ n3_ n4_ n5_ n6_ n7_ n8_
 (try clear hb)
 (try clear hb2)
 (try clear hk)
 (try clear hi)
 (try clear ho0)
 obtain ⟨Ao2003, co2003, eo2003⟩ := Kd.R_slice HO230.out
 (first | subst eo2003 | (injection eo2003 with f1_ f2_ f3_; have f4_ := f1_.symm; have f5_ := f3_.symm; clear f1_ f2_ f3_; subst f4_; subst f5_))
 refine hK.out _ _ ⟨(blk_cell BK217.out 0).trans rfl, (blk_cell BK217.out 1).trans rfl, (blk_cell BK217.out 2).trans rfl, (blk_cell BK198.out 0).trans rfl, (blk_cell BK198.out 1).trans rfl, (blk_cell BK198.out 2).trans rfl⟩ (fun hHeld => ?_)
 clear hK K
 refine norm_ (a' := ?_) ?_ ?_
 rotate_left
 {
 show Act.put _ (some 43) _ = _
 simp only [Act.put, List.setIfInBounds_toArray, List.set_cons_zero, List.set_cons_succ, i64_w, i32_w]
 rfl
 }
 refine one_ (i := 3) (N := some 44) #[true, true, true, true, false] rfl rfl (by kernel_rfl) (by decide) (fun K hK => ?_)
 refine goes_ Try.func40 (by kernel_rfl) rfl #[.agg #[.int .i64 t212, .int .i64 t213, .slice Ao1019 t214.length co1019], .agg #[.int .i64 t226, .int .i64 t227, .slice Ao2003 t228.length co2003]] (by rfl) rfl rfl wT ?_
 with_reducible refine (laws_eqBoard.calls kj7 t212 t213 _ _ t214 t226 t227 _ _ t228 _ _ ?side1 ?side2 ?side3 ?side4 A1034.out).mono ?_
 (case side1 => exact Ch HO_218002)
 (case side2 => exact (Kd.R_reads' HO_218002.out).2.1)
 (case side3 => exact Ch HO230)
 (case side4 => exact (Kd.R_reads' HO230.out).2.1)
 rintro e w2004 ⟨rfl, hb⟩
 refine ⟨_, rfl, ?_⟩
 have n0_ := Aside0.mk (Kd.R_below (Rh HO_212002) hb)
 have n1_ := Aside0.mk (Kd.R_below (Rh HO_218002) hb)
 have n2_ := Aside0.mk (Kd.R_below (Rh HO_225002) hb)
 have n3_ := Aside0.mk (Kd.R_below (Rh HO230) hb)
 have n4_ := Aside0.mk (blk_below (Bh BK198) hb)
 have n5_ := Aside0.mk (blk_below (Bh BK211) hb)
 have n6_ := Aside0.mk (blk_below (Bh BK217) hb)
 have n7_ := Aside0.mk (blk_below (Bh BK224) hb)
 have n8_ := Aside0.mk (below_step wB hb)
 clear HO_212002
 clear HO_218002
 clear HO_225002
 clear HO230
 clear BK198
 clear BK211
 clear BK217
 clear BK224
 clear HB
 have HO_212002 := n0_
 have HO_218002 := n1_
 have HO_225002 := n2_
 have HO230 := n3_
 have BK198 := n4_
 have BK211 := n5_
 have BK217 := n6_
 have BK224 := n7_
 have HB := n8_
 clear n0_ n1_ n2_ n3_ n4_ n5_ n6_ n7_ n8_
 (try clear hb)
 (try clear hb2)
 (try clear hk)
 (try clear hi)
 refine hK.out _ _ ⟨(blk_cell BK217.out 0).trans rfl, (blk_cell BK217.out 1).trans rfl, (blk_cell BK217.out 2).trans rfl, (blk_cell BK198.out 0).trans rfl, (blk_cell BK198.out 1).trans rfl, (blk_cell BK198.out 2).trans rfl⟩ (fun hHeld => ?_)
 clear hK K
 refine norm_ (a' := ?_) ?_ ?_
 rotate_left
 {
 show Act.put _ (some 44) _ = _
 simp only [Act.put, List.setIfInBounds_toArray, List.set_cons_zero, List.set_cons_succ, i64_w, i32_w]
 rfl
 }
 refine pure_ (i := 4) (N := some 45) (v := ?_) (a' := ?_) #[true, true, true, true, true] rfl rfl (by kernel_rfl) (fun _ _ _ h => h) (Or.inl ⟨by rfl, ?_⟩) ?_ ?_
 rotate_left
 {
 intro w'
 go_simp
 with_reducible rfl
 }
 rotate_left
 {
 simp only [Act.put, List.setIfInBounds_toArray, List.set_cons_zero, List.set_cons_succ, i64_w, i32_w]
 rfl
 }
 refine done_ (by kernel_rfl) ?_
 )
 {
 have hnb2005 := NB217_198.out
 have hnc2005 := NB198_217.out
 have hnb2006 := NB217_211.out
 have hnc2006 := NB211_217.out
 have hnb2007 := NB217_224.out
 have hnc2007 := NB224_217.out
 obtain ⟨⟨hcz2008_0, hcz2008_1, hcz2008_2⟩, hfz2008_0, hfz2008_1, hfz2008_2⟩ := cells3 BK217.out
 go_upto_region 14 with (first | ((with_reducible refine gate_callee (f := 41) rfl ?_); refine goesL_ (some 48) rfl rfl Try.func41 (by kernel_rfl) rfl #[.agg #[.int .i64 t212, .int .i64 t213, .slice Ao1019 t214.length co1019], .int .i64 1] rfl wT ?_; (with_reducible refine (laws_markBoard.calls kj7 t212 t213 (fun k_ => some k_ = (.slice Ao1019 t214.length co1019 : Value).ownBlock) (.slice Ao1019 t214.length co1019) t214 1 t232 t233 w _ ?side1 ?side2 A1036.out).mono ?_); (case side1 => repeat (first | (with_reducible first | exact HB.out | apply below_alloc | apply pw_below_drewN | apply below_drew1 | refine below_set ?_ GE198.out | refine below_set ?_ GE211.out | refine below_set ?_ GE217.out | refine below_set ?_ GE224.out) | exact HB.out)); (case side2 => exact Kd.R_tight rfl HO_218002.out); rintro e w2009 ⟨rfl, hy0, hb, hkp⟩; refine ⟨_, rfl, ?_⟩; have n0_ := Aside0.mk (Kd.R_mono (ok' := fun k_ => some k_ ≠ (.slice Ao1019 t214.length co1019 : Value).ownBlock ∧ some k_ ≠ (.slice Ao1028 t220.length co1028 : Value).ownBlock ∧ some k_ ≠ (.slice Ao2003 t228.length co2003 : Value).ownBlock) (Kd.R_keptB (HO_212002.out) hkp (fun k_ hk_ hs_ => (hk_.1.1) hs_)) (fun k_ hk_ => ⟨hk_.1.1.1, hk_.1.1.2, hk_.1.2⟩)); have n1_ := Aside0.mk (Kd.R_reok rfl hy0 (fun k_ e_ => HO_218002.out.1 k_ e_)); have n2_ := Aside0.mk (Kd.R_mono (ok' := fun k_ => some k_ ≠ (.slice Ao1011 t207.length co1011 : Value).ownBlock ∧ some k_ ≠ (.slice Ao1019 t214.length co1019 : Value).ownBlock ∧ some k_ ≠ (.slice Ao2003 t228.length co2003 : Value).ownBlock) (Kd.R_keptB (HO_225002.out) hkp (fun k_ hk_ hs_ => (hk_.1.2) hs_)) (fun k_ hk_ => ⟨hk_.1.1.1, hk_.1.1.2, hk_.1.2⟩)); have n3_ := Aside0.mk (blk_kept (Bh BK198) hkp (fun hs_ => (fun e_ => (Kd.R_ne HO_218002.out BK198.out (by decide)) e_) hs_)); have n4_ := Aside0.mk (blk_kept (Bh BK211) hkp (fun hs_ => (fun e_ => (Kd.R_ne HO_218002.out BK211.out (by decide)) e_) hs_)); have n5_ := Aside0.mk (blk_kept (Bh BK217) hkp (fun hs_ => (fun e_ => (Kd.R_ne HO_218002.out BK217.out (by decide)) e_) hs_)); have n6_ := Aside0.mk (blk_kept (Bh BK224) hkp (fun hs_ => (fun e_ => (Kd.R_ne HO_218002.out BK224.out (by decide)) e_) hs_)); have n7_ := Aside0.mk (Kd.R_mono (ok' := fun k_ => some k_ ≠ (.slice Ao1011 t207.length co1011 : Value).ownBlock ∧ some k_ ≠ (.slice Ao1019 t214.length co1019 : Value).ownBlock ∧ some k_ ≠ (.slice Ao1028 t220.length co1028 : Value).ownBlock) (Kd.R_keptB (HO230.out) hkp (fun k_ hk_ hs_ => (hk_.1.2) hs_)) (fun k_ hk_ => ⟨hk_.1.1.1.2, hk_.1.1.2, hk_.1.2⟩)); have n8_ := Aside0.mk (hb); clear HO_212002; clear HO_218002; clear HO_225002; clear BK198; clear BK211; clear BK217; clear BK224; clear HO230; clear HB; have HO_212002 := n0_; have HO_218002 := n1_; have HO_225002 := n2_; have BK198 := n3_; have BK211 := n4_; have BK217 := n5_; have BK224 := n6_; have HO230 := n7_; have HB := n8_; clear n0_ n1_ n2_ n3_ n4_ n5_ n6_ n7_ n8_; (try clear hb); (try clear hkp); (try clear hy0)))
 (try simp only [Act.put, List.setIfInBounds_toArray, List.set_cons_zero, List.set_cons_succ])
 go_cut [61] (fun v61 wc => ∃ (kq : Nat) (x61_1036 : Bool), v61 = .bool x61_1036 ∧ Aside0 (laws_FnExactBoardTimeout.j1 kq t210 x61_1036 a0_0 a0_1 l0_2 t205 t206 t207 t218 t219 t220 = some r) ∧ Aside0 (kq ≤ kj7) ∧ Aside0 (Kd.R k85 85 wc w.heap.size (fun k_ => some k_ ≠ ((.slice Ao1019 t214.length co1019) : Value).ownBlock ∧ some k_ ≠ ((.slice Ao1028 t220.length co1028) : Value).ownBlock) (.slice Ao1011 t207.length co1011) t207) ∧ Aside0 (Kd.R k85 85 wc w.heap.size (fun k_ => some k_ ≠ ((.slice Ao1011 t207.length co1011) : Value).ownBlock ∧ some k_ ≠ ((.slice Ao1028 t220.length co1028) : Value).ownBlock) (.slice Ao1019 t214.length co1019) t233) ∧ Aside0 (Kd.R k85 85 wc w.heap.size (fun k_ => some k_ ≠ ((.slice Ao1011 t207.length co1011) : Value).ownBlock ∧ some k_ ≠ ((.slice Ao1019 t214.length co1019) : Value).ownBlock) (.slice Ao1028 t220.length co1028) t220) ∧ Aside0 (wc.heap[gb198]? = some (.cells #[.int .i64 a0_0, .int .i64 a0_1, (.slice A0_2 l0_2.length c0_2)] 59 (0, 0))) ∧ Aside0 (wc.heap[gb211]? = some (.cells #[.int .i64 t205, .int .i64 t206, (.slice Ao1011 t207.length co1011)] 63 (0, 0))) ∧ Aside0 (wc.heap[gb217]? = some (.cells #[.int .i64 t212, .int .i64 t213, (.slice Ao1019 t214.length co1019)] 63 (0, 0))) ∧ Aside0 (wc.heap[gb224]? = some (.cells #[.int .i64 t218, .int .i64 t219, (.slice Ao1028 t220.length co1028)] 63 (0, 0))) ∧ Aside0 (Below w.heap.size w wc))
 case first => (
 have H := HC1037.out
 clear HC1037
 by_cases c2010 : t232 < 0
 rw [if_pos c2010] at H
 have c2010b0 : decide (t232 < 0) = true := decide_eq_true c2010
 clear c2010
 (first | rw [c2010b0] | (simp only [i64_w, i32_w]; rw [c2010b0]) | skip)
 have H' := Aside0.mk H
 clear H
 rotate_left
 rw [if_neg c2010] at H
 have c2010b0 : decide (t232 < 0) = false := decide_eq_false c2010
 clear c2010
 (first | rw [c2010b0] | (simp only [i64_w, i32_w]; rw [c2010b0]) | skip)
 replace H := Option.bind_eq_some_iff.mp H
 obtain ⟨t234, A20110, H⟩ := H
 replace H : (if t234 = true then (laws_FnExactBoardTimeout.j1 kj7 t210 (t223 != t210) a0_0 a0_1 l0_2 t205 t206 t207 t218 t219 t220) else (laws_FnExactBoardTimeout.j1 kj7 t210 true a0_0 a0_1 l0_2 t205 t206 t207 t218 t219 t220)) = some r := H
 have A2011 := Aside0.mk A20110
 clear A20110
 by_cases c2012 : t234 = true
 subst c2012
 have H1 : (laws_FnExactBoardTimeout.j1 kj7 t210 (t223 != t210) a0_0 a0_1 l0_2 t205 t206 t207 t218 t219 t220) = some r := by rw [if_pos rfl] at H; exact H
 clear H
 have H := H1
 clear H1
 have H' := Aside0.mk H
 clear H
 rotate_left
 replace c2012 := Bool.eq_false_iff.mpr c2012
 subst c2012
 have H1 : (laws_FnExactBoardTimeout.j1 kj7 t210 true a0_0 a0_1 l0_2 t205 t206 t207 t218 t219 t220) = some r := by rw [if_neg (show ¬ (false = true) by decide)] at H; exact H
 clear H
 have H := H1
 clear H1
 have H' := Aside0.mk H
 clear H
 rotate_left
 {
 go_wp2
 go_meet
 case rel => exact ⟨_, (true), (by first | rfl | (simp; done) | (simp [*]; done)), H', ⟨by have := HJ7.out; first | omega | exact Nat.le_refl _⟩, ⟨Kd.R_mono (Rh HO_212002) (fun _ hk => ⟨hk.1, hk.2.1⟩)⟩, ⟨Kd.R_mono (Rh HO_218002) (fun _ hk => ⟨hk.1.1, hk.1.2⟩)⟩, ⟨Kd.R_mono (Rh HO_225002) (fun _ hk => ⟨hk.1, hk.2.1⟩)⟩, ⟨Bh BK198⟩, ⟨Bh BK211⟩, ⟨Bh BK217⟩, ⟨Bh BK224⟩, ⟨wB⟩⟩
 }
 all_goals (
 have hnb3001 := NB224_198.out
 have hnc3001 := NB198_224.out
 have hnb3002 := NB224_211.out
 have hnc3002 := NB211_224.out
 have hnb3003 := NB224_217.out
 have hnc3003 := NB217_224.out
 obtain ⟨⟨hcz3004_0, hcz3004_1, hcz3004_2⟩, hfz3004_0, hfz3004_1, hfz3004_2⟩ := cells3 BK224.out
 have hnb3005 := NB211_198.out
 have hnc3005 := NB198_211.out
 have hnb3006 := NB211_217.out
 have hnc3006 := NB217_211.out
 obtain ⟨⟨hcz3007_0, hcz3007_1, hcz3007_2⟩, hfz3007_0, hfz3007_1, hfz3007_2⟩ := cells3 BK211.out
 go_wp2_with (first | (go_at_call 40; (with_reducible refine (laws_eqBoard.calls kj7 t218 t219 _ _ t220 t205 t206 _ _ t207 _ _ ?side1 ?side2 ?side3 ?side4 A2011.out).mono ?_); (case side1 => exact Ch HO_225002); (case side2 => exact (Kd.R_reads' HO_225002.out).2.1); (case side3 => exact Ch HO_212002); (case side4 => exact (Kd.R_reads' HO_212002.out).2.1); rintro e w3008 ⟨rfl, hb⟩; have n0_ := Aside0.mk (Kd.R_below (Rh HO_212002) hb); have n1_ := Aside0.mk (Kd.R_below (Rh HO_218002) hb); have n2_ := Aside0.mk (Kd.R_below (Rh HO_225002) hb); have n3_ := Aside0.mk (Kd.R_below (Rh HO230) hb); have n4_ := Aside0.mk (blk_below (Bh BK198) hb); have n5_ := Aside0.mk (blk_below (Bh BK211) hb); have n6_ := Aside0.mk (blk_below (Bh BK217) hb); have n7_ := Aside0.mk (blk_below (Bh BK224) hb); have n8_ := Aside0.mk (below_step wB hb); clear HO_212002; clear HO_218002; clear HO_225002; clear HO230; clear BK198; clear BK211; clear BK217; clear BK224; clear HB; have HO_212002 := n0_; have HO_218002 := n1_; have HO_225002 := n2_; have HO230 := n3_; have BK198 := n4_; have BK211 := n5_; have BK217 := n6_; have BK224 := n7_; have HB := n8_; clear n0_ n1_ n2_ n3_ n4_ n5_ n6_ n7_ n8_; (try clear hb); (try clear hb2); (try clear hk); (try clear hi)))
 go_meet
 )
 {
 case rel => exact ⟨_, ((t223 != t210)), (by first | rfl | (simp; done) | (simp [*]; done)), H', ⟨by have := HJ7.out; first | omega | exact Nat.le_refl _⟩, ⟨Kd.R_mono (Rh HO_212002) (fun _ hk => ⟨hk.1, hk.2.1⟩)⟩, ⟨Kd.R_mono (Rh HO_218002) (fun _ hk => ⟨hk.1.1, hk.1.2⟩)⟩, ⟨Kd.R_mono (Rh HO_225002) (fun _ hk => ⟨hk.1, hk.2.1⟩)⟩, ⟨Bh BK198⟩, ⟨Bh BK211⟩, ⟨Bh BK217⟩, ⟨Bh BK224⟩, ⟨wB⟩⟩
 }
 {
 case rel => exact ⟨_, (true), (by first | rfl | (simp; done) | (simp [*]; done)), H', ⟨by have := HJ7.out; first | omega | exact Nat.le_refl _⟩, ⟨Kd.R_mono (Rh HO_212002) (fun _ hk => ⟨hk.1, hk.2.1⟩)⟩, ⟨Kd.R_mono (Rh HO_218002) (fun _ hk => ⟨hk.1.1, hk.1.2⟩)⟩, ⟨Kd.R_mono (Rh HO_225002) (fun _ hk => ⟨hk.1, hk.2.1⟩)⟩, ⟨Bh BK198⟩, ⟨Bh BK211⟩, ⟨Bh BK217⟩, ⟨Bh BK224⟩, ⟨wB⟩⟩
 }
 )
 case rest => (
 clear HC1037
 try clear c0
 try clear c3
 try clear c3b0
 try clear c1031
 try clear c1032
 try clear c1035
 try clear c2010
 try clear c2010b0
 try clear c2012
 try clear hcz1002_0 hcz1002_1 hcz1002_2 hfz1002_0 hfz1002_1 hfz1002_2
 try clear hcz1004_0 hcz1004_1 hcz1004_2 hfz1004_0 hfz1004_1 hfz1004_2
 try clear hcz1010_0 hcz1010_1 hcz1010_2 hfz1010_0 hfz1010_1 hfz1010_2
 try clear hcz1013_0 hcz1013_1 hcz1013_2 hfz1013_0 hfz1013_1 hfz1013_2
 try clear hcz1018_0 hcz1018_1 hcz1018_2 hfz1018_0 hfz1018_1 hfz1018_2
 try clear hcz1021_0 hcz1021_1 hcz1021_2 hfz1021_0 hfz1021_1 hfz1021_2
 try clear hcz1027_0 hcz1027_1 hcz1027_2 hfz1027_0 hfz1027_1 hfz1027_2
 try clear hcz2004_0 hcz2004_1 hcz2004_2 hfz2004_0 hfz2004_1 hfz2004_2
 try clear hcz2007_0 hcz2007_1 hcz2007_2 hfz2007_0 hfz2007_1 hfz2007_2
 try clear hcz2008_0 hcz2008_1 hcz2008_2 hfz2008_0 hfz2008_1 hfz2008_2
 try clear hcz3004_0 hcz3004_1 hcz3004_2 hfz3004_0 hfz3004_1 hfz3004_2
 try clear hcz3007_0 hcz3007_1 hcz3007_2 hfz3007_0 hfz3007_1 hfz3007_2
 obtain ⟨kq, x61_1036, rfl, HA, HJ1036, HO_212002, HO_218002, HO_225002, BK198, BK211, BK217, BK224, HB⟩ := hcut
 have hl218002_1036 := (Kd.R_reads' HO_218002.out).1
 rw [hl218002_1036] at HO_218002
 (try simp only [hl218002_1036])
 (try simp only [hl218002_1036] at BK198)
 (try simp only [hl218002_1036] at BK211)
 (try simp only [hl218002_1036] at BK217)
 (try simp only [hl218002_1036] at BK224)
 (try simp only [hl218002_1036] at HO_212002)
 (try simp only [hl218002_1036] at HO_225002)
 cases kq with
 | zero => exact absurd HA.out (by simp [laws_FnExactBoardTimeout.j1])
 | succ kj1036 => {
 have H := HA.out
 clear HA
 simp only [laws_FnExactBoardTimeout.j1] at H
 by_cases c2013 : x61_1036 = true
 subst c2013
 have H1 : (some false) = some r := by rw [if_pos rfl] at H; exact H
 clear H
 have H := H1
 clear H1
 obtain rfl := Option.some.inj H
 rotate_left
 replace c2013 := Bool.eq_false_iff.mpr c2013
 subst c2013
 have H1 : ((laws_markBoard.f kj1036 t218 t219 t220 1).bind fun bt235 => ((laws_heldBoard.f kj1036 t218 t219 bt235.2 1).bind fun t237 => (if t237 < 0 then (some false) else (if t237 = bt235.1 then ((laws_toBoard.f kj1036 a0_0 a0_1 l0_2).bind fun bt238 => ((impl_BoardTimeout.f kj1036 bt238.1 bt238.2.1 bt238.2.2).bind fun bt243 => ((laws_eqBoard.f kj1036 bt243.1 bt243.2.1 bt243.2.2.1 t205 t206 t207).bind fun t250 => (if t250 = true then (laws_FnExactBoardTimeout.j2 kj1036 bt235.1 (bt243.2.2.2 != t210) t218 t219 bt235.2) else (laws_FnExactBoardTimeout.j2 kj1036 bt235.1 true t218 t219 bt235.2))))) else (some false))))) = some r := by rw [if_neg (show ¬ (false = true) by decide)] at H; exact H
 clear H
 have H := H1
 clear H1
 replace H := Option.bind_eq_some_iff.mp H
 obtain ⟨⟨t235, t236⟩, A20140, H⟩ := H
 replace H : ((laws_heldBoard.f kj1036 t218 t219 t236 1).bind fun t237 => (if t237 < 0 then (some false) else (if t237 = t235 then ((laws_toBoard.f kj1036 a0_0 a0_1 l0_2).bind fun bt238 => ((impl_BoardTimeout.f kj1036 bt238.1 bt238.2.1 bt238.2.2).bind fun bt243 => ((laws_eqBoard.f kj1036 bt243.1 bt243.2.1 bt243.2.2.1 t205 t206 t207).bind fun t250 => (if t250 = true then (laws_FnExactBoardTimeout.j2 kj1036 t235 (bt243.2.2.2 != t210) t218 t219 t236) else (laws_FnExactBoardTimeout.j2 kj1036 t235 true t218 t219 t236))))) else (some false)))) = some r := H
 have A2014 := Aside0.mk A20140
 clear A20140
 replace H := Option.bind_eq_some_iff.mp H
 obtain ⟨t237, A20150, H⟩ := H
 replace H : (if t237 < 0 then (some false) else (if t237 = t235 then ((laws_toBoard.f kj1036 a0_0 a0_1 l0_2).bind fun bt238 => ((impl_BoardTimeout.f kj1036 bt238.1 bt238.2.1 bt238.2.2).bind fun bt243 => ((laws_eqBoard.f kj1036 bt243.1 bt243.2.1 bt243.2.2.1 t205 t206 t207).bind fun t250 => (if t250 = true then (laws_FnExactBoardTimeout.j2 kj1036 t235 (bt243.2.2.2 != t210) t218 t219 t236) else (laws_FnExactBoardTimeout.j2 kj1036 t235 true t218 t219 t236))))) else (some false))) = some r := H
 have A2015 := Aside0.mk A20150
 clear A20150
 by_cases c2016 : t237 < 0
 rw [if_pos c2016] at H
 have c2016b0 : decide (t237 < 0) = true := decide_eq_true c2016
 clear c2016
 obtain rfl := Option.some.inj H
 rotate_left
 rw [if_neg c2016] at H
 have c2016b0 : decide (t237 < 0) = false := decide_eq_false c2016
 clear c2016
 by_cases c2017 : t237 = t235
 rw [if_pos c2017] at H
 have c2017b0 : (t237 == t235) = true := beq_iff_eq.mpr c2017
 have c2017b1 : (t237 != t235) = false := bne_eq_false_iff_eq.mpr c2017
 clear c2017
 replace H := Option.bind_eq_some_iff.mp H
 obtain ⟨⟨t238, t239, t240⟩, A20180, H⟩ := H
 replace H : ((impl_BoardTimeout.f kj1036 t238 t239 t240).bind fun bt243 => ((laws_eqBoard.f kj1036 bt243.1 bt243.2.1 bt243.2.2.1 t205 t206 t207).bind fun t250 => (if t250 = true then (laws_FnExactBoardTimeout.j2 kj1036 t235 (bt243.2.2.2 != t210) t218 t219 t236) else (laws_FnExactBoardTimeout.j2 kj1036 t235 true t218 t219 t236)))) = some r := H
 have A2018 := Aside0.mk A20180
 clear A20180
 replace H := Option.bind_eq_some_iff.mp H
 obtain ⟨⟨t243, t244, t245, t248⟩, A20190, H⟩ := H
 replace H : ((laws_eqBoard.f kj1036 t243 t244 t245 t205 t206 t207).bind fun t250 => (if t250 = true then (laws_FnExactBoardTimeout.j2 kj1036 t235 (t248 != t210) t218 t219 t236) else (laws_FnExactBoardTimeout.j2 kj1036 t235 true t218 t219 t236))) = some r := H
 have A2019 := Aside0.mk A20190
 clear A20190
 have HC2020 := Aside0.mk H
 clear H
 rotate_left
 rw [if_neg c2017] at H
 have c2017b0 : (t237 == t235) = false := beq_eq_false_iff_ne.mpr c2017
 have c2017b1 : (t237 != t235) = true := bne_iff_ne.mpr c2017
 obtain rfl := Option.some.inj H
 rotate_left
 {
 go_wp2
 go_ret
 exact ⟨by first | rfl | (simp [errW_none, errW_some] <;> rfl) | (simp [*, errW_none, errW_some] <;> rfl), wB⟩
 }
 all_goals (
 have hnb3001 := NB224_198.out
 have hnc3001 := NB198_224.out
 have hnb3002 := NB224_211.out
 have hnc3002 := NB211_224.out
 have hnb3003 := NB224_217.out
 have hnc3003 := NB217_224.out
 obtain ⟨⟨hcz3004_0, hcz3004_1, hcz3004_2⟩, hfz3004_0, hfz3004_1, hfz3004_2⟩ := cells3 BK224.out
 )
 {
 go_wp2_with (first | ((with_reducible refine gate_callee (f := 41) rfl ?_); refine goesL_ (some 64) rfl rfl Try.func41 (by kernel_rfl) rfl #[.agg #[.int .i64 t218, .int .i64 t219, .slice Ao1028 t220.length co1028], .int .i64 1] rfl wT ?_; (with_reducible refine (laws_markBoard.calls kj1036 t218 t219 (fun k_ => some k_ = (.slice Ao1028 t220.length co1028 : Value).ownBlock) (.slice Ao1028 t220.length co1028) t220 1 t235 t236 w _ ?side1 ?side2 A2014.out).mono ?_); (case side1 => repeat (first | (with_reducible first | exact HB.out | apply below_alloc | apply pw_below_drewN | apply below_drew1 | refine below_set ?_ GE198.out | refine below_set ?_ GE211.out | refine below_set ?_ GE217.out | refine below_set ?_ GE224.out) | exact HB.out)); (case side2 => exact Kd.R_tight rfl HO_225002.out); rintro e w3005 ⟨rfl, hy0, hb, hkp⟩; refine ⟨_, rfl, ?_⟩; have n0_ := Aside0.mk (Kd.R_mono (ok' := fun k_ => some k_ ≠ (.slice Ao1019 t233.length co1019 : Value).ownBlock ∧ some k_ ≠ (.slice Ao1028 t220.length co1028 : Value).ownBlock) (Kd.R_keptB (HO_212002.out) hkp (fun k_ hk_ hs_ => (hk_.2) hs_)) (fun k_ hk_ => ⟨hk_.1.1, hk_.1.2⟩)); have n1_ := Aside0.mk (Kd.R_mono (ok' := fun k_ => some k_ ≠ (.slice Ao1011 t207.length co1011 : Value).ownBlock ∧ some k_ ≠ (.slice Ao1028 t220.length co1028 : Value).ownBlock) (Kd.R_keptB (HO_218002.out) hkp (fun k_ hk_ hs_ => (hk_.2) hs_)) (fun k_ hk_ => ⟨hk_.1.1, hk_.1.2⟩)); have n2_ := Aside0.mk (Kd.R_reok rfl hy0 (fun k_ e_ => HO_225002.out.1 k_ e_)); have n3_ := Aside0.mk (blk_kept (Bh BK198) hkp (fun hs_ => (fun e_ => (Kd.R_ne HO_225002.out BK198.out (by decide)) e_) hs_)); have n4_ := Aside0.mk (blk_kept (Bh BK211) hkp (fun hs_ => (fun e_ => (Kd.R_ne HO_225002.out BK211.out (by decide)) e_) hs_)); have n5_ := Aside0.mk (blk_kept (Bh BK217) hkp (fun hs_ => (fun e_ => (Kd.R_ne HO_225002.out BK217.out (by decide)) e_) hs_)); have n6_ := Aside0.mk (blk_kept (Bh BK224) hkp (fun hs_ => (fun e_ => (Kd.R_ne HO_225002.out BK224.out (by decide)) e_) hs_)); have n7_ := Aside0.mk (hb); clear HO_212002; clear HO_218002; clear HO_225002; clear BK198; clear BK211; clear BK217; clear BK224; clear HB; have HO_212002 := n0_; have HO_218002 := n1_; have HO_225002 := n2_; have BK198 := n3_; have BK211 := n4_; have BK217 := n5_; have BK224 := n6_; have HB := n7_; clear n0_ n1_ n2_ n3_ n4_ n5_ n6_ n7_; (try clear hb); (try clear hkp); (try clear hy0); obtain ⟨⟨hcz3006_0, hcz3006_1, hcz3006_2⟩, hfz3006_0, hfz3006_1, hfz3006_2⟩ := cells3 BK224.out) | ((with_reducible refine gate_callee (f := 42) rfl ?_); refine goesL_ (some 67) rfl rfl Try.func42 (by kernel_rfl) rfl #[.agg #[.int .i64 t218, .int .i64 t219, .slice Ao1028 t236.length co1028], .int .i64 1] rfl (by (try simp only [List.map_toArray, List.map_cons, List.map_nil]); first | done | (rw [show t236.length = t220.length from (Kd.R_reads' HO_225002.out).1.symm] <;> rfl) | rfl | (simp only [List.length_drop, List.length_take]; rfl)) ?_; (with_reducible refine (laws_heldBoard.calls kj1036 t218 t219 _ _ t236 1 t237 _ ?side1 ?side2 A2015.out).mono ?_); (case side1 => exact Ch HO_225002); (case side2 => rw [show t236.length = t220.length from (Kd.R_reads' HO_225002.out).1.symm]; exact (Kd.R_reads' HO_225002.out).2.1); rintro e w3007 ⟨rfl, hb⟩; refine ⟨_, rfl, ?_⟩; have n0_ := Aside0.mk (Kd.R_below (Rh HO_212002) hb); have n1_ := Aside0.mk (Kd.R_below (Rh HO_218002) hb); have n2_ := Aside0.mk (Kd.R_below (Rh HO_225002) hb); have n3_ := Aside0.mk (blk_below (Bh BK198) hb); have n4_ := Aside0.mk (blk_below (Bh BK211) hb); have n5_ := Aside0.mk (blk_below (Bh BK217) hb); have n6_ := Aside0.mk (blk_below (Bh BK224) hb); have n7_ := Aside0.mk (below_step wB hb); clear HO_212002; clear HO_218002; clear HO_225002; clear BK198; clear BK211; clear BK217; clear BK224; clear HB; have HO_212002 := n0_; have HO_218002 := n1_; have HO_225002 := n2_; have BK198 := n3_; have BK211 := n4_; have BK217 := n5_; have BK224 := n6_; have HB := n7_; clear n0_ n1_ n2_ n3_ n4_ n5_ n6_ n7_; (try clear hb); (try clear hb2); (try clear hk); (try clear hi)))
 go_ret
 exact ⟨by first | rfl | (simp [errW_none, errW_some] <;> rfl) | (simp [*, errW_none, errW_some] <;> rfl), wB⟩
 }
 {
 go_upto_region 25 with (first | ((with_reducible refine gate_callee (f := 41) rfl ?_); refine goesL_ (some 64) rfl rfl Try.func41 (by kernel_rfl) rfl #[.agg #[.int .i64 t218, .int .i64 t219, .slice Ao1028 t220.length co1028], .int .i64 1] rfl wT ?_; (with_reducible refine (laws_markBoard.calls kj1036 t218 t219 (fun k_ => some k_ = (.slice Ao1028 t220.length co1028 : Value).ownBlock) (.slice Ao1028 t220.length co1028) t220 1 t235 t236 w _ ?side1 ?side2 A2014.out).mono ?_); (case side1 => repeat (first | (with_reducible first | exact HB.out | apply below_alloc | apply pw_below_drewN | apply below_drew1 | refine below_set ?_ GE198.out | refine below_set ?_ GE211.out | refine below_set ?_ GE217.out | refine below_set ?_ GE224.out) | exact HB.out)); (case side2 => exact Kd.R_tight rfl HO_225002.out); rintro e w3005 ⟨rfl, hy0, hb, hkp⟩; refine ⟨_, rfl, ?_⟩; have n0_ := Aside0.mk (Kd.R_mono (ok' := fun k_ => some k_ ≠ (.slice Ao1019 t233.length co1019 : Value).ownBlock ∧ some k_ ≠ (.slice Ao1028 t220.length co1028 : Value).ownBlock) (Kd.R_keptB (HO_212002.out) hkp (fun k_ hk_ hs_ => (hk_.2) hs_)) (fun k_ hk_ => ⟨hk_.1.1, hk_.1.2⟩)); have n1_ := Aside0.mk (Kd.R_mono (ok' := fun k_ => some k_ ≠ (.slice Ao1011 t207.length co1011 : Value).ownBlock ∧ some k_ ≠ (.slice Ao1028 t220.length co1028 : Value).ownBlock) (Kd.R_keptB (HO_218002.out) hkp (fun k_ hk_ hs_ => (hk_.2) hs_)) (fun k_ hk_ => ⟨hk_.1.1, hk_.1.2⟩)); have n2_ := Aside0.mk (Kd.R_reok rfl hy0 (fun k_ e_ => HO_225002.out.1 k_ e_)); have n3_ := Aside0.mk (blk_kept (Bh BK198) hkp (fun hs_ => (fun e_ => (Kd.R_ne HO_225002.out BK198.out (by decide)) e_) hs_)); have n4_ := Aside0.mk (blk_kept (Bh BK211) hkp (fun hs_ => (fun e_ => (Kd.R_ne HO_225002.out BK211.out (by decide)) e_) hs_)); have n5_ := Aside0.mk (blk_kept (Bh BK217) hkp (fun hs_ => (fun e_ => (Kd.R_ne HO_225002.out BK217.out (by decide)) e_) hs_)); have n6_ := Aside0.mk (blk_kept (Bh BK224) hkp (fun hs_ => (fun e_ => (Kd.R_ne HO_225002.out BK224.out (by decide)) e_) hs_)); have n7_ := Aside0.mk (hb); clear HO_212002; clear HO_218002; clear HO_225002; clear BK198; clear BK211; clear BK217; clear BK224; clear HB; have HO_212002 := n0_; have HO_218002 := n1_; have HO_225002 := n2_; have BK198 := n3_; have BK211 := n4_; have BK217 := n5_; have BK224 := n6_; have HB := n7_; clear n0_ n1_ n2_ n3_ n4_ n5_ n6_ n7_; (try clear hb); (try clear hkp); (try clear hy0); obtain ⟨⟨hcz3006_0, hcz3006_1, hcz3006_2⟩, hfz3006_0, hfz3006_1, hfz3006_2⟩ := cells3 BK224.out) | ((with_reducible refine gate_callee (f := 42) rfl ?_); refine goesL_ (some 67) rfl rfl Try.func42 (by kernel_rfl) rfl #[.agg #[.int .i64 t218, .int .i64 t219, .slice Ao1028 t236.length co1028], .int .i64 1] rfl (by (try simp only [List.map_toArray, List.map_cons, List.map_nil]); first | done | (rw [show t236.length = t220.length from (Kd.R_reads' HO_225002.out).1.symm] <;> rfl) | rfl | (simp only [List.length_drop, List.length_take]; rfl)) ?_; (with_reducible refine (laws_heldBoard.calls kj1036 t218 t219 _ _ t236 1 t237 _ ?side1 ?side2 A2015.out).mono ?_); (case side1 => exact Ch HO_225002); (case side2 => rw [show t236.length = t220.length from (Kd.R_reads' HO_225002.out).1.symm]; exact (Kd.R_reads' HO_225002.out).2.1); rintro e w3007 ⟨rfl, hb⟩; refine ⟨_, rfl, ?_⟩; have n0_ := Aside0.mk (Kd.R_below (Rh HO_212002) hb); have n1_ := Aside0.mk (Kd.R_below (Rh HO_218002) hb); have n2_ := Aside0.mk (Kd.R_below (Rh HO_225002) hb); have n3_ := Aside0.mk (blk_below (Bh BK198) hb); have n4_ := Aside0.mk (blk_below (Bh BK211) hb); have n5_ := Aside0.mk (blk_below (Bh BK217) hb); have n6_ := Aside0.mk (blk_below (Bh BK224) hb); have n7_ := Aside0.mk (below_step wB hb); clear HO_212002; clear HO_218002; clear HO_225002; clear BK198; clear BK211; clear BK217; clear BK224; clear HB; have HO_212002 := n0_; have HO_218002 := n1_; have HO_225002 := n2_; have BK198 := n3_; have BK211 := n4_; have BK217 := n5_; have BK224 := n6_; have HB := n7_; clear n0_ n1_ n2_ n3_ n4_ n5_ n6_ n7_; (try clear hb); (try clear hb2); (try clear hk); (try clear hi); have hnb3008 := NB198_211.out; have hnc3008 := NB211_198.out; have hnb3009 := NB198_217.out; have hnc3009 := NB217_198.out; obtain ⟨⟨hcz3010_0, hcz3010_1, hcz3010_2⟩, hfz3010_0, hfz3010_1, hfz3010_2⟩ := cells3 BK198.out) | ((with_reducible refine gate_callee (f := 38) rfl ?_); refine goesL_ (some 75) rfl rfl Try.func38 (by kernel_rfl) rfl #[.agg #[.int .i64 a0_0, .int .i64 a0_1, .slice A0_2 l0_2.length c0_2]] rfl wT ?_; (with_reducible refine (laws_toBoard.calls kj1036 a0_0 a0_1 _ _ l0_2 t238 t239 t240 _ ?side1 ?side2 A2018.out).mono ?_); (case side1 => exact Kd.C_below HR0_2.out wB); (case side2 => exact HC0_2.out); rintro e w3011 ⟨v241, rfl, ho0, hb⟩; refine ⟨_, rfl, ?_⟩; have n0_ := Aside0.mk (Kd.R_elder' (Rh HO_212002) (Kd.R_base ho0) hb); have n1_ := Aside0.mk (Kd.R_elder' (Rh HO_218002) (Kd.R_base ho0) hb); have n2_ := Aside0.mk (Kd.R_elder' (Rh HO_225002) (Kd.R_base ho0) hb); have n3_ := Aside0.mk (Kd.R_lower (Kd.R_new' (Kd.R_new' (Kd.R_new' ho0 (Kd.R_lt (Rh HO_212002))) (Kd.R_lt (Rh HO_218002))) (Kd.R_lt (Rh HO_225002))) (below_size wB)); have n4_ := Aside0.mk (blk_below (Bh BK198) hb); have n5_ := Aside0.mk (blk_below (Bh BK211) hb); have n6_ := Aside0.mk (blk_below (Bh BK217) hb); have n7_ := Aside0.mk (blk_below (Bh BK224) hb); have n8_ := Aside0.mk (below_step wB hb); clear HO_212002; clear HO_218002; clear HO_225002; clear BK198; clear BK211; clear BK217; clear BK224; clear HB; have HO_212002 := n0_; have HO_218002 := n1_; have HO_225002 := n2_; have HO242 := n3_; have BK198 := n4_; have BK211 := n5_; have BK217 := n6_; have BK224 := n7_; have HB := n8_; clear n0_ n1_ n2_ n3_ n4_ n5_ n6_ n7_ n8_; (try clear hb); (try clear hb2); (try clear hk); (try clear hi); (try clear ho0); obtain ⟨Ao3012, co3012, eo3012⟩ := Kd.R_slice HO242.out; subst eo3012) | ((with_reducible refine gate_callee (f := 39) rfl ?_); refine goesL_ (some 76) rfl rfl Try.func39 (by kernel_rfl) rfl #[.agg #[.int .i64 t238, .int .i64 t239, .slice Ao3012 t240.length co3012]] rfl wT ?_; (with_reducible refine (impl_BoardTimeout.calls kj1036 t238 t239 _ _ t240 t243 t244 t245 t248 _ ?side1 ?side2 A2019.out).mono ?_); (case side1 => exact Ch HO242); (case side2 => exact (Kd.R_reads' HO242.out).2.1); rintro e w3013 ⟨v246, rfl, ho0, hb⟩; refine ⟨_, rfl, ?_⟩; have n0_ := Aside0.mk (Kd.R_elder' (Rh HO_212002) (Kd.R_base ho0) hb); have n1_ := Aside0.mk (Kd.R_elder' (Rh HO_218002) (Kd.R_base ho0) hb); have n2_ := Aside0.mk (Kd.R_elder' (Rh HO_225002) (Kd.R_base ho0) hb); have n3_ := Aside0.mk (Kd.R_elder' (Rh HO242) (Kd.R_base ho0) hb); have n4_ := Aside0.mk (Kd.R_lower (Kd.R_new' (Kd.R_new' (Kd.R_new' (Kd.R_new' ho0 (Kd.R_lt (Rh HO_212002))) (Kd.R_lt (Rh HO_218002))) (Kd.R_lt (Rh HO_225002))) (Kd.R_lt (Rh HO242))) (below_size wB)); have n5_ := Aside0.mk (blk_below (Bh BK198) hb); have n6_ := Aside0.mk (blk_below (Bh BK211) hb); have n7_ := Aside0.mk (blk_below (Bh BK217) hb); have n8_ := Aside0.mk (blk_below (Bh BK224) hb); have n9_ := Aside0.mk (below_step wB hb); clear HO_212002; clear HO_218002; clear HO_225002; clear HO242; clear BK198; clear BK211; clear BK217; clear BK224; clear HB; have HO_212002 := n0_; have HO_218002 := n1_; have HO_225002 := n2_; have HO242 := n3_; have HO247 := n4_; have BK198 := n5_; have BK211 := n6_; have BK217 := n7_; have BK224 := n8_; have HB := n9_; clear n0_ n1_ n2_ n3_ n4_ n5_ n6_ n7_ n8_ n9_; (try clear hb); (try clear hb2); (try clear hk); (try clear hi); (try clear ho0)) | ((with_reducible refine gate_dst (N := 12) rfl ?_); refine box_event ?hg (N := 12) ?hd (cs := #[.int .i64 0, .int .i64 0, .slice none 0 0]) (t := 63) ?hr ?_; (case hd => rfl); (case hg => rfl); (case hr => first | (go_simp; done) | (go_simp; rfl)); intro gb249 hg w3014 hbox hb; have n0_ := Aside0.mk (Kd.R_below (Rh HO_212002) hb); have n1_ := Aside0.mk (Kd.R_below (Rh HO_218002) hb); have n2_ := Aside0.mk (Kd.R_below (Rh HO_225002) hb); have n3_ := Aside0.mk (Kd.R_below (Rh HO242) hb); have n4_ := Aside0.mk (Kd.R_below (Rh HO247) hb); have n5_ := Aside0.mk (blk_below (Bh BK198) hb); have n6_ := Aside0.mk (blk_below (Bh BK211) hb); have n7_ := Aside0.mk (blk_below (Bh BK217) hb); have n8_ := Aside0.mk (blk_below (Bh BK224) hb); have n9_ := Aside0.mk (below_step wB hb); have n10_ := Aside0.mk (hbox); have n11_ := Aside0.mk ((by rw [hg]; exact (below_size wB) : w.heap.size ≤ gb249)); have n12_ := Aside0.mk ((by rw [hg]; exact (below_size wB) : w.heap.size ≤ gb249)); have n13_ := Aside0.mk ((by rw [hg]; exact Nat.ne_of_lt (blk_lt (Bh BK198)) : gb198 ≠ gb249)); have n14_ := Aside0.mk ((by rw [hg]; exact Nat.ne_of_gt (blk_lt (Bh BK198)) : gb249 ≠ gb198)); have n15_ := Aside0.mk ((by rw [hg]; exact Nat.ne_of_lt (blk_lt (Bh BK211)) : gb211 ≠ gb249)); have n16_ := Aside0.mk ((by rw [hg]; exact Nat.ne_of_gt (blk_lt (Bh BK211)) : gb249 ≠ gb211)); have n17_ := Aside0.mk ((by rw [hg]; exact Nat.ne_of_lt (blk_lt (Bh BK217)) : gb217 ≠ gb249)); have n18_ := Aside0.mk ((by rw [hg]; exact Nat.ne_of_gt (blk_lt (Bh BK217)) : gb249 ≠ gb217)); have n19_ := Aside0.mk ((by rw [hg]; exact Nat.ne_of_lt (blk_lt (Bh BK224)) : gb224 ≠ gb249)); have n20_ := Aside0.mk ((by rw [hg]; exact Nat.ne_of_gt (blk_lt (Bh BK224)) : gb249 ≠ gb224)); clear HO_212002; clear HO_218002; clear HO_225002; clear HO242; clear HO247; clear BK198; clear BK211; clear BK217; clear BK224; clear HB; have HO_212002 := n0_; have HO_218002 := n1_; have HO_225002 := n2_; have HO242 := n3_; have HO247 := n4_; have BK198 := n5_; have BK211 := n6_; have BK217 := n7_; have BK224 := n8_; have HB := n9_; have BK249 := n10_; have GW249 := n11_; have GE249 := n12_; have NB198_249 := n13_; have NB249_198 := n14_; have NB211_249 := n15_; have NB249_211 := n16_; have NB217_249 := n17_; have NB249_217 := n18_; have NB224_249 := n19_; have NB249_224 := n20_; clear n0_ n1_ n2_ n3_ n4_ n5_ n6_ n7_ n8_ n9_ n10_ n11_ n12_ n13_ n14_ n15_ n16_ n17_ n18_ n19_ n20_; clear hb hbox hg; have hnb3015 := NB249_198.out; have hnc3015 := NB198_249.out; have hnb3016 := NB249_211.out; have hnc3016 := NB211_249.out; have hnb3017 := NB249_217.out; have hnc3017 := NB217_249.out; have hnb3018 := NB249_224.out; have hnc3018 := NB224_249.out; obtain ⟨⟨hcz3019_0, hcz3019_1, hcz3019_2⟩, hfz3019_0, hfz3019_1, hfz3019_2⟩ := cells3 BK249.out; obtain ⟨Ao3020, co3020, eo3020⟩ := Kd.R_slice HO247.out; subst eo3020) | ((with_reducible refine gate_store (t := 63) (p := 12) rfl ?_); (try (rw [drewN_self w3014]; generalize hq_ : World.drewN w3014 _ = w3014; have n0_ := Aside0.mk (Kd.R_at hq_ HO_212002.out); have n1_ := Aside0.mk (Kd.R_at hq_ HO_218002.out); have n2_ := Aside0.mk (Kd.R_at hq_ HO_225002.out); have n3_ := Aside0.mk (Kd.R_at hq_ HO242.out); have n4_ := Aside0.mk (Kd.R_at hq_ HO247.out); have n5_ := Aside0.mk (blk_at hq_ BK198.out); have n6_ := Aside0.mk (blk_at hq_ BK211.out); have n7_ := Aside0.mk (blk_at hq_ BK217.out); have n8_ := Aside0.mk (blk_at hq_ BK224.out); have n9_ := Aside0.mk (blk_at hq_ BK249.out); have n10_ := Aside0.mk (below_at hq_ HB.out); clear hq_ HO_212002 HO_218002 HO_225002 HO242 HO247 BK198 BK211 BK217 BK224 BK249 HB; have HO_212002 := n0_; have HO_218002 := n1_; have HO_225002 := n2_; have HO242 := n3_; have HO247 := n4_; have BK198 := n5_; have BK211 := n6_; have BK217 := n7_; have BK224 := n8_; have BK249 := n9_; have HB := n10_; clear n0_ n1_ n2_ n3_ n4_ n5_ n6_ n7_ n8_ n9_ n10_; (try (obtain ⟨⟨hcyBK198_0, hcyBK198_1, hcyBK198_2⟩, hfyBK198_0, hfyBK198_1, hfyBK198_2⟩ := cells3 BK198.out)); (try (obtain ⟨⟨hcyBK211_0, hcyBK211_1, hcyBK211_2⟩, hfyBK211_0, hfyBK211_1, hfyBK211_2⟩ := cells3 BK211.out)); (try (obtain ⟨⟨hcyBK217_0, hcyBK217_1, hcyBK217_2⟩, hfyBK217_0, hfyBK217_1, hfyBK217_2⟩ := cells3 BK217.out)); (try (obtain ⟨⟨hcyBK224_0, hcyBK224_1, hcyBK224_2⟩, hfyBK224_0, hfyBK224_1, hfyBK224_2⟩ := cells3 BK224.out)); (try (obtain ⟨⟨hcyBK249_0, hcyBK249_1, hcyBK249_2⟩, hfyBK249_0, hfyBK249_1, hfyBK249_2⟩ := cells3 BK249.out)))); refine store_event (t := 63) (p := 12) (v := ?_) (w1 := (((w3014.setCell ⟨gb249, 0, none⟩ (.int .i64 t243)).setCell ⟨gb249, 1, none⟩ (.int .i64 t244)).setCell ⟨gb249, 2, none⟩ (.slice Ao3020 t245.length co3020))) ?hg ?ho ?hn ?hr ?_; (case ho => rfl); (case hg => rfl); (case hn => rfl); (case hr => first | (go_simp; done) | (go_simp; rfl)); intro w3021 hw; have n0_ : Aside0 (Kd.R k85 85 w3021 w.heap.size (fun k_ => some k_ ≠ (.slice Ao1019 t233.length co1019 : Value).ownBlock ∧ some k_ ≠ (.slice Ao1028 t220.length co1028 : Value).ownBlock ∧ some k_ ≠ (.slice Ao3012 t240.length co3012 : Value).ownBlock ∧ some k_ ≠ (.slice Ao3020 t245.length co3020 : Value).ownBlock) (.slice Ao1011 t207.length co1011) t207) := ⟨(by rw [hw]; exact (by (with_reducible repeat (first | apply Kd.R_alloc | apply Kd.R_drewN | apply Kd.R_drew)); exact Kd.R_mono (Kd.R_far (p := ⟨gb249, 2, none⟩) (Kd.R_far (p := ⟨gb249, 1, none⟩) (Kd.R_far (p := ⟨gb249, 0, none⟩) (Kd.R_types HO_212002.out BK249.out (by decide)) (fun _ hk => hk.2) (.int .i64 t243)) (fun _ hk => hk.2) (.int .i64 t244)) (fun _ hk => hk.2) (.slice Ao3020 t245.length co3020)) (fun _ hk => ⟨hk.1.1.1.1, ⟨hk.1.1.1.2, ⟨hk.1.1.2, hk.1.2⟩⟩⟩)))⟩; have n1_ : Aside0 (Kd.R k85 85 w3021 w.heap.size (fun k_ => some k_ ≠ (.slice Ao1011 t207.length co1011 : Value).ownBlock ∧ some k_ ≠ (.slice Ao1028 t220.length co1028 : Value).ownBlock ∧ some k_ ≠ (.slice Ao3012 t240.length co3012 : Value).ownBlock ∧ some k_ ≠ (.slice Ao3020 t245.length co3020 : Value).ownBlock) (.slice Ao1019 t233.length co1019) t233) := ⟨(by rw [hw]; exact (by (with_reducible repeat (first | apply Kd.R_alloc | apply Kd.R_drewN | apply Kd.R_drew)); exact Kd.R_mono (Kd.R_far (p := ⟨gb249, 2, none⟩) (Kd.R_far (p := ⟨gb249, 1, none⟩) (Kd.R_far (p := ⟨gb249, 0, none⟩) (Kd.R_types HO_218002.out BK249.out (by decide)) (fun _ hk => hk.2) (.int .i64 t243)) (fun _ hk => hk.2) (.int .i64 t244)) (fun _ hk => hk.2) (.slice Ao3020 t245.length co3020)) (fun _ hk => ⟨hk.1.1.1.1, ⟨hk.1.1.1.2, ⟨hk.1.1.2, hk.1.2⟩⟩⟩)))⟩; have n2_ : Aside0 (Kd.R k85 85 w3021 w.heap.size (fun k_ => some k_ ≠ (.slice Ao1011 t207.length co1011 : Value).ownBlock ∧ some k_ ≠ (.slice Ao1019 t233.length co1019 : Value).ownBlock ∧ some k_ ≠ (.slice Ao3012 t240.length co3012 : Value).ownBlock ∧ some k_ ≠ (.slice Ao3020 t245.length co3020 : Value).ownBlock) (.slice Ao1028 t220.length co1028) t236) := ⟨(by rw [hw]; exact (by (with_reducible repeat (first | apply Kd.R_alloc | apply Kd.R_drewN | apply Kd.R_drew)); exact Kd.R_mono (Kd.R_far (p := ⟨gb249, 2, none⟩) (Kd.R_far (p := ⟨gb249, 1, none⟩) (Kd.R_far (p := ⟨gb249, 0, none⟩) (Kd.R_types HO_225002.out BK249.out (by decide)) (fun _ hk => hk.2) (.int .i64 t243)) (fun _ hk => hk.2) (.int .i64 t244)) (fun _ hk => hk.2) (.slice Ao3020 t245.length co3020)) (fun _ hk => ⟨hk.1.1.1.1, ⟨hk.1.1.1.2, ⟨hk.1.1.2, hk.1.2⟩⟩⟩)))⟩; have n3_ : Aside0 (Kd.R k85 85 w3021 w.heap.size (fun k_ => some k_ ≠ (.slice Ao1011 t207.length co1011 : Value).ownBlock ∧ some k_ ≠ (.slice Ao1019 t233.length co1019 : Value).ownBlock ∧ some k_ ≠ (.slice Ao1028 t220.length co1028 : Value).ownBlock ∧ some k_ ≠ (.slice Ao3020 t245.length co3020 : Value).ownBlock) (.slice Ao3012 t240.length co3012) t240) := ⟨(by rw [hw]; exact (by (with_reducible repeat (first | apply Kd.R_alloc | apply Kd.R_drewN | apply Kd.R_drew)); exact Kd.R_mono (Kd.R_far (p := ⟨gb249, 2, none⟩) (Kd.R_far (p := ⟨gb249, 1, none⟩) (Kd.R_far (p := ⟨gb249, 0, none⟩) (Kd.R_types HO242.out BK249.out (by decide)) (fun _ hk => hk.2) (.int .i64 t243)) (fun _ hk => hk.2) (.int .i64 t244)) (fun _ hk => hk.2) (.slice Ao3020 t245.length co3020)) (fun _ hk => ⟨hk.1.1.1.1.2, ⟨hk.1.1.1.2, ⟨hk.1.1.2, hk.1.2⟩⟩⟩)))⟩; have n4_ : Aside0 (Kd.R k85 85 w3021 w.heap.size (fun k_ => some k_ ≠ (.slice Ao1011 t207.length co1011 : Value).ownBlock ∧ some k_ ≠ (.slice Ao1019 t233.length co1019 : Value).ownBlock ∧ some k_ ≠ (.slice Ao1028 t220.length co1028 : Value).ownBlock ∧ some k_ ≠ (.slice Ao3012 t240.length co3012 : Value).ownBlock) (.slice Ao3020 t245.length co3020) t245) := ⟨(by rw [hw]; exact (by (with_reducible repeat (first | apply Kd.R_alloc | apply Kd.R_drewN | apply Kd.R_drew)); exact Kd.R_mono (Kd.R_far (p := ⟨gb249, 2, none⟩) (Kd.R_far (p := ⟨gb249, 1, none⟩) (Kd.R_far (p := ⟨gb249, 0, none⟩) (Kd.R_types HO247.out BK249.out (by decide)) (fun _ hk => hk.2) (.int .i64 t243)) (fun _ hk => hk.2) (.int .i64 t244)) (fun _ hk => hk.2) (.slice Ao3020 t245.length co3020)) (fun _ hk => ⟨hk.1.1.1.1.2, ⟨hk.1.1.1.2, ⟨hk.1.1.2, hk.1.2⟩⟩⟩)))⟩; have n5_ : Aside0 (w3021.heap[gb198]? = some (.cells #[.int .i64 a0_0, .int .i64 a0_1, .slice A0_2 l0_2.length c0_2] 59 (0, 0))) := ⟨(by rw [hw]; exact (by (with_reducible repeat (first | refine blk_drewN ?_ _ | refine blk_drew ?_ | refine blk_alloc ?_ _)); refine blk_far ?_ NB198_249.out _; (with_reducible repeat (first | refine blk_drewN ?_ _ | refine blk_drew ?_ | refine blk_alloc ?_ _)); refine blk_far ?_ NB198_249.out _; (with_reducible repeat (first | refine blk_drewN ?_ _ | refine blk_drew ?_ | refine blk_alloc ?_ _)); refine blk_far ?_ NB198_249.out _; (with_reducible repeat (first | refine blk_drewN ?_ _ | refine blk_drew ?_ | refine blk_alloc ?_ _)); exact BK198.out))⟩; have n6_ : Aside0 (w3021.heap[gb211]? = some (.cells #[.int .i64 t205, .int .i64 t206, .slice Ao1011 t207.length co1011] 63 (0, 0))) := ⟨(by rw [hw]; exact (by (with_reducible repeat (first | refine blk_drewN ?_ _ | refine blk_drew ?_ | refine blk_alloc ?_ _)); refine blk_far ?_ NB211_249.out _; (with_reducible repeat (first | refine blk_drewN ?_ _ | refine blk_drew ?_ | refine blk_alloc ?_ _)); refine blk_far ?_ NB211_249.out _; (with_reducible repeat (first | refine blk_drewN ?_ _ | refine blk_drew ?_ | refine blk_alloc ?_ _)); refine blk_far ?_ NB211_249.out _; (with_reducible repeat (first | refine blk_drewN ?_ _ | refine blk_drew ?_ | refine blk_alloc ?_ _)); exact BK211.out))⟩; have n7_ : Aside0 (w3021.heap[gb217]? = some (.cells #[.int .i64 t212, .int .i64 t213, .slice Ao1019 t233.length co1019] 63 (0, 0))) := ⟨(by rw [hw]; exact (by (with_reducible repeat (first | refine blk_drewN ?_ _ | refine blk_drew ?_ | refine blk_alloc ?_ _)); refine blk_far ?_ NB217_249.out _; (with_reducible repeat (first | refine blk_drewN ?_ _ | refine blk_drew ?_ | refine blk_alloc ?_ _)); refine blk_far ?_ NB217_249.out _; (with_reducible repeat (first | refine blk_drewN ?_ _ | refine blk_drew ?_ | refine blk_alloc ?_ _)); refine blk_far ?_ NB217_249.out _; (with_reducible repeat (first | refine blk_drewN ?_ _ | refine blk_drew ?_ | refine blk_alloc ?_ _)); exact BK217.out))⟩; have n8_ : Aside0 (w3021.heap[gb224]? = some (.cells #[.int .i64 t218, .int .i64 t219, .slice Ao1028 t220.length co1028] 63 (0, 0))) := ⟨(by rw [hw]; exact (by (with_reducible repeat (first | refine blk_drewN ?_ _ | refine blk_drew ?_ | refine blk_alloc ?_ _)); refine blk_far ?_ NB224_249.out _; (with_reducible repeat (first | refine blk_drewN ?_ _ | refine blk_drew ?_ | refine blk_alloc ?_ _)); refine blk_far ?_ NB224_249.out _; (with_reducible repeat (first | refine blk_drewN ?_ _ | refine blk_drew ?_ | refine blk_alloc ?_ _)); refine blk_far ?_ NB224_249.out _; (with_reducible repeat (first | refine blk_drewN ?_ _ | refine blk_drew ?_ | refine blk_alloc ?_ _)); exact BK224.out))⟩; have n9_ : Aside0 (w3021.heap[gb249]? = some (.cells #[.int .i64 t243, .int .i64 t244, .slice Ao3020 t245.length co3020] 63 (0, 0))) := ⟨(by rw [hw]; exact (by (with_reducible repeat (first | refine blk_drewN ?_ _ | refine blk_drew ?_ | refine blk_alloc ?_ _)); refine blk_put (cs := #[.int .i64 t243, .int .i64 t244, .slice none 0 0]) ?_ 2 _ rfl; (with_reducible repeat (first | refine blk_drewN ?_ _ | refine blk_drew ?_ | refine blk_alloc ?_ _)); refine blk_put (cs := #[.int .i64 t243, .int .i64 0, .slice none 0 0]) ?_ 1 _ rfl; (with_reducible repeat (first | refine blk_drewN ?_ _ | refine blk_drew ?_ | refine blk_alloc ?_ _)); refine blk_put (cs := #[.int .i64 0, .int .i64 0, .slice none 0 0]) ?_ 0 _ rfl; (with_reducible repeat (first | refine blk_drewN ?_ _ | refine blk_drew ?_ | refine blk_alloc ?_ _)); exact BK249.out))⟩; have n10_ : Aside0 (Below w.heap.size w w3021) := ⟨(by rw [hw]; exact wB)⟩; clear hw; clear HO_212002; clear HO_218002; clear HO_225002; clear HO242; clear HO247; clear BK198; clear BK211; clear BK217; clear BK224; clear BK249; clear HB; have HO_212002 := n0_; have HO_218002 := n1_; have HO_225002 := n2_; have HO242 := n3_; have HO247 := n4_; have BK198 := n5_; have BK211 := n6_; have BK217 := n7_; have BK224 := n8_; have BK249 := n9_; have HB := n10_; clear n0_ n1_ n2_ n3_ n4_ n5_ n6_ n7_ n8_ n9_ n10_))
 (try simp only [Act.put, List.setIfInBounds_toArray, List.set_cons_zero, List.set_cons_succ])
 go_cut [87] (fun v87 wc => ∃ (kq : Nat) (x87_2019 : Bool), v87 = .bool x87_2019 ∧ Aside0 (laws_FnExactBoardTimeout.j2 kq t235 x87_2019 t218 t219 t236 = some r) ∧ Aside0 (kq ≤ kj1036) ∧ Aside0 (Kd.R k85 85 wc w.heap.size (fun k_ => some k_ ≠ ((.slice Ao1019 t233.length co1019) : Value).ownBlock ∧ some k_ ≠ ((.slice Ao1028 t220.length co1028) : Value).ownBlock ∧ some k_ ≠ ((.slice Ao3020 t245.length co3020) : Value).ownBlock) (.slice Ao1011 t207.length co1011) t207) ∧ Aside0 (Kd.R k85 85 wc w.heap.size (fun k_ => some k_ ≠ ((.slice Ao1011 t207.length co1011) : Value).ownBlock ∧ some k_ ≠ ((.slice Ao1028 t220.length co1028) : Value).ownBlock ∧ some k_ ≠ ((.slice Ao3020 t245.length co3020) : Value).ownBlock) (.slice Ao1019 t233.length co1019) t233) ∧ Aside0 (Kd.R k85 85 wc w.heap.size (fun k_ => some k_ ≠ ((.slice Ao1011 t207.length co1011) : Value).ownBlock ∧ some k_ ≠ ((.slice Ao1019 t233.length co1019) : Value).ownBlock ∧ some k_ ≠ ((.slice Ao3020 t245.length co3020) : Value).ownBlock) (.slice Ao1028 t220.length co1028) t236) ∧ Aside0 (Kd.R k85 85 wc w.heap.size (fun k_ => some k_ ≠ ((.slice Ao1011 t207.length co1011) : Value).ownBlock ∧ some k_ ≠ ((.slice Ao1019 t233.length co1019) : Value).ownBlock ∧ some k_ ≠ ((.slice Ao1028 t220.length co1028) : Value).ownBlock) (.slice Ao3020 t245.length co3020) t245) ∧ Aside0 (wc.heap[gb198]? = some (.cells #[.int .i64 a0_0, .int .i64 a0_1, (.slice A0_2 l0_2.length c0_2)] 59 (0, 0))) ∧ Aside0 (wc.heap[gb211]? = some (.cells #[.int .i64 t205, .int .i64 t206, (.slice Ao1011 t207.length co1011)] 63 (0, 0))) ∧ Aside0 (wc.heap[gb217]? = some (.cells #[.int .i64 t212, .int .i64 t213, (.slice Ao1019 t233.length co1019)] 63 (0, 0))) ∧ Aside0 (wc.heap[gb224]? = some (.cells #[.int .i64 t218, .int .i64 t219, (.slice Ao1028 t220.length co1028)] 63 (0, 0))) ∧ Aside0 (wc.heap[gb249]? = some (.cells #[.int .i64 t243, .int .i64 t244, (.slice Ao3020 t245.length co3020)] 63 (0, 0))) ∧ Aside0 (Below w.heap.size w wc))
 case first => (
 have H := HC2020.out
 clear HC2020
 replace H := Option.bind_eq_some_iff.mp H
 obtain ⟨t250, A30220, H⟩ := H
 replace H : (if t250 = true then (laws_FnExactBoardTimeout.j2 kj1036 t235 (t248 != t210) t218 t219 t236) else (laws_FnExactBoardTimeout.j2 kj1036 t235 true t218 t219 t236)) = some r := H
 have A3022 := Aside0.mk A30220
 clear A30220
 by_cases c3023 : t250 = true
 subst c3023
 have H1 : (laws_FnExactBoardTimeout.j2 kj1036 t235 (t248 != t210) t218 t219 t236) = some r := by rw [if_pos rfl] at H; exact H
 clear H
 have H := H1
 clear H1
 have H' := Aside0.mk H
 clear H
 rotate_left
 replace c3023 := Bool.eq_false_iff.mpr c3023
 subst c3023
 have H1 : (laws_FnExactBoardTimeout.j2 kj1036 t235 true t218 t219 t236) = some r := by rw [if_neg (show ¬ (false = true) by decide)] at H; exact H
 clear H
 have H := H1
 clear H1
 have H' := Aside0.mk H
 clear H
 rotate_left
 all_goals (
 have hnb4001 := NB249_198.out
 have hnc4001 := NB198_249.out
 have hnb4002 := NB249_211.out
 have hnc4002 := NB211_249.out
 have hnb4003 := NB249_217.out
 have hnc4003 := NB217_249.out
 have hnb4004 := NB249_224.out
 have hnc4004 := NB224_249.out
 obtain ⟨⟨hcz4005_0, hcz4005_1, hcz4005_2⟩, hfz4005_0, hfz4005_1, hfz4005_2⟩ := cells3 BK249.out
 have hnb4006 := NB211_198.out
 have hnc4006 := NB198_211.out
 have hnb4007 := NB211_217.out
 have hnc4007 := NB217_211.out
 have hnb4008 := NB211_224.out
 have hnc4008 := NB224_211.out
 obtain ⟨⟨hcz4009_0, hcz4009_1, hcz4009_2⟩, hfz4009_0, hfz4009_1, hfz4009_2⟩ := cells3 BK211.out
 go_wp2_with (first | ((with_reducible refine gate_callee (f := 40) rfl ?_); refine goesL_ (some 81) rfl rfl Try.func40 (by kernel_rfl) rfl #[.agg #[.int .i64 t243, .int .i64 t244, .slice Ao3020 t245.length co3020], .agg #[.int .i64 t205, .int .i64 t206, .slice Ao1011 t207.length co1011]] rfl wT ?_; (with_reducible refine (laws_eqBoard.calls kj1036 t243 t244 _ _ t245 t205 t206 _ _ t207 _ _ ?side1 ?side2 ?side3 ?side4 A3022.out).mono ?_); (case side1 => exact Ch HO247); (case side2 => exact (Kd.R_reads' HO247.out).2.1); (case side3 => exact Ch HO_212002); (case side4 => exact (Kd.R_reads' HO_212002.out).2.1); rintro e w4010 ⟨rfl, hb⟩; refine ⟨_, rfl, ?_⟩; have n0_ := Aside0.mk (Kd.R_below (Rh HO_212002) hb); have n1_ := Aside0.mk (Kd.R_below (Rh HO_218002) hb); have n2_ := Aside0.mk (Kd.R_below (Rh HO_225002) hb); have n3_ := Aside0.mk (Kd.R_below (Rh HO242) hb); have n4_ := Aside0.mk (Kd.R_below (Rh HO247) hb); have n5_ := Aside0.mk (blk_below (Bh BK198) hb); have n6_ := Aside0.mk (blk_below (Bh BK211) hb); have n7_ := Aside0.mk (blk_below (Bh BK217) hb); have n8_ := Aside0.mk (blk_below (Bh BK224) hb); have n9_ := Aside0.mk (blk_below (Bh BK249) hb); have n10_ := Aside0.mk (below_step wB hb); clear HO_212002; clear HO_218002; clear HO_225002; clear HO242; clear HO247; clear BK198; clear BK211; clear BK217; clear BK224; clear BK249; clear HB; have HO_212002 := n0_; have HO_218002 := n1_; have HO_225002 := n2_; have HO242 := n3_; have HO247 := n4_; have BK198 := n5_; have BK211 := n6_; have BK217 := n7_; have BK224 := n8_; have BK249 := n9_; have HB := n10_; clear n0_ n1_ n2_ n3_ n4_ n5_ n6_ n7_ n8_ n9_ n10_; (try clear hb); (try clear hb2); (try clear hk); (try clear hi)))
 go_meet
 )
 {
 case rel => exact ⟨_, ((t248 != t210)), (by first | rfl | (simp; done) | (simp [*]; done)), H', ⟨by have := HJ7.out; have := HJ1036.out; first | omega | exact Nat.le_refl _⟩, ⟨by (try simp only [hl218002_1036]); (with_reducible repeat (first | apply Kd.R_alloc | apply Kd.R_drewN | apply Kd.R_drew)); exact Kd.R_mono HO_212002.out (fun _ hk => ⟨hk.1, ⟨hk.2.1, hk.2.2.2⟩⟩)⟩, ⟨by (try simp only [hl218002_1036]); (with_reducible repeat (first | apply Kd.R_alloc | apply Kd.R_drewN | apply Kd.R_drew)); exact Kd.R_mono HO_218002.out (fun _ hk => ⟨hk.1, ⟨hk.2.1, hk.2.2.2⟩⟩)⟩, ⟨by (try simp only [hl218002_1036]); (with_reducible repeat (first | apply Kd.R_alloc | apply Kd.R_drewN | apply Kd.R_drew)); exact Kd.R_mono HO_225002.out (fun _ hk => ⟨hk.1, ⟨hk.2.1, hk.2.2.2⟩⟩)⟩, ⟨by (try simp only [hl218002_1036]); (with_reducible repeat (first | apply Kd.R_alloc | apply Kd.R_drewN | apply Kd.R_drew)); exact Kd.R_mono HO247.out (fun _ hk => ⟨hk.1, ⟨hk.2.1, hk.2.2.1⟩⟩)⟩, ⟨by (try simp only [hl218002_1036]); (with_reducible repeat (first | refine blk_drewN ?_ _ | refine blk_drew ?_ | refine blk_alloc ?_ _)); exact BK198.out⟩, ⟨by (try simp only [hl218002_1036]); (with_reducible repeat (first | refine blk_drewN ?_ _ | refine blk_drew ?_ | refine blk_alloc ?_ _)); exact BK211.out⟩, ⟨by (try simp only [hl218002_1036]); (with_reducible repeat (first | refine blk_drewN ?_ _ | refine blk_drew ?_ | refine blk_alloc ?_ _)); exact BK217.out⟩, ⟨by (try simp only [hl218002_1036]); (with_reducible repeat (first | refine blk_drewN ?_ _ | refine blk_drew ?_ | refine blk_alloc ?_ _)); exact BK224.out⟩, ⟨by (try simp only [hl218002_1036]); (with_reducible repeat (first | refine blk_drewN ?_ _ | refine blk_drew ?_ | refine blk_alloc ?_ _)); exact BK249.out⟩, ⟨wB⟩⟩
 }
 {
 case rel => exact ⟨_, (true), (by first | rfl | (simp; done) | (simp [*]; done)), H', ⟨by have := HJ7.out; have := HJ1036.out; first | omega | exact Nat.le_refl _⟩, ⟨by (try simp only [hl218002_1036]); (with_reducible repeat (first | apply Kd.R_alloc | apply Kd.R_drewN | apply Kd.R_drew)); exact Kd.R_mono HO_212002.out (fun _ hk => ⟨hk.1, ⟨hk.2.1, hk.2.2.2⟩⟩)⟩, ⟨by (try simp only [hl218002_1036]); (with_reducible repeat (first | apply Kd.R_alloc | apply Kd.R_drewN | apply Kd.R_drew)); exact Kd.R_mono HO_218002.out (fun _ hk => ⟨hk.1, ⟨hk.2.1, hk.2.2.2⟩⟩)⟩, ⟨by (try simp only [hl218002_1036]); (with_reducible repeat (first | apply Kd.R_alloc | apply Kd.R_drewN | apply Kd.R_drew)); exact Kd.R_mono HO_225002.out (fun _ hk => ⟨hk.1, ⟨hk.2.1, hk.2.2.2⟩⟩)⟩, ⟨by (try simp only [hl218002_1036]); (with_reducible repeat (first | apply Kd.R_alloc | apply Kd.R_drewN | apply Kd.R_drew)); exact Kd.R_mono HO247.out (fun _ hk => ⟨hk.1, ⟨hk.2.1, hk.2.2.1⟩⟩)⟩, ⟨by (try simp only [hl218002_1036]); (with_reducible repeat (first | refine blk_drewN ?_ _ | refine blk_drew ?_ | refine blk_alloc ?_ _)); exact BK198.out⟩, ⟨by (try simp only [hl218002_1036]); (with_reducible repeat (first | refine blk_drewN ?_ _ | refine blk_drew ?_ | refine blk_alloc ?_ _)); exact BK211.out⟩, ⟨by (try simp only [hl218002_1036]); (with_reducible repeat (first | refine blk_drewN ?_ _ | refine blk_drew ?_ | refine blk_alloc ?_ _)); exact BK217.out⟩, ⟨by (try simp only [hl218002_1036]); (with_reducible repeat (first | refine blk_drewN ?_ _ | refine blk_drew ?_ | refine blk_alloc ?_ _)); exact BK224.out⟩, ⟨by (try simp only [hl218002_1036]); (with_reducible repeat (first | refine blk_drewN ?_ _ | refine blk_drew ?_ | refine blk_alloc ?_ _)); exact BK249.out⟩, ⟨wB⟩⟩
 }
 )
 case rest => (
 clear HC2020
 try clear c0
 try clear c3
 try clear c3b0
 try clear c1031
 try clear c1032
 try clear c1035
 try clear c2010
 try clear c2010b0
 try clear c2012
 try clear c2013
 try clear c2016
 try clear c2016b0
 try clear c2017
 try clear c2017b0
 try clear c2017b1
 try clear c3023
 try clear hcz1002_0 hcz1002_1 hcz1002_2 hfz1002_0 hfz1002_1 hfz1002_2
 try clear hcz1004_0 hcz1004_1 hcz1004_2 hfz1004_0 hfz1004_1 hfz1004_2
 try clear hcz1010_0 hcz1010_1 hcz1010_2 hfz1010_0 hfz1010_1 hfz1010_2
 try clear hcz1013_0 hcz1013_1 hcz1013_2 hfz1013_0 hfz1013_1 hfz1013_2
 try clear hcz1018_0 hcz1018_1 hcz1018_2 hfz1018_0 hfz1018_1 hfz1018_2
 try clear hcz1021_0 hcz1021_1 hcz1021_2 hfz1021_0 hfz1021_1 hfz1021_2
 try clear hcz1027_0 hcz1027_1 hcz1027_2 hfz1027_0 hfz1027_1 hfz1027_2
 try clear hcz2004_0 hcz2004_1 hcz2004_2 hfz2004_0 hfz2004_1 hfz2004_2
 try clear hcz2007_0 hcz2007_1 hcz2007_2 hfz2007_0 hfz2007_1 hfz2007_2
 try clear hcz2008_0 hcz2008_1 hcz2008_2 hfz2008_0 hfz2008_1 hfz2008_2
 try clear hcz3004_0 hcz3004_1 hcz3004_2 hfz3004_0 hfz3004_1 hfz3004_2
 try clear hcz3006_0 hcz3006_1 hcz3006_2 hfz3006_0 hfz3006_1 hfz3006_2
 try clear hcz3007_0 hcz3007_1 hcz3007_2 hfz3007_0 hfz3007_1 hfz3007_2
 try clear hcz3010_0 hcz3010_1 hcz3010_2 hfz3010_0 hfz3010_1 hfz3010_2
 try clear hcz3019_0 hcz3019_1 hcz3019_2 hfz3019_0 hfz3019_1 hfz3019_2
 try clear hcz4005_0 hcz4005_1 hcz4005_2 hfz4005_0 hfz4005_1 hfz4005_2
 try clear hcz4009_0 hcz4009_1 hcz4009_2 hfz4009_0 hfz4009_1 hfz4009_2
 obtain ⟨kq, x87_2019, rfl, HA, HJ2019, HO_212002, HO_218002, HO_225002, HO_250002, BK198, BK211, BK217, BK224, BK249, HB⟩ := hcut
 have hl225002_2019 := (Kd.R_reads' HO_225002.out).1
 rw [hl225002_2019] at HO_225002
 (try simp only [hl225002_2019])
 (try simp only [hl225002_2019] at BK198)
 (try simp only [hl225002_2019] at BK211)
 (try simp only [hl225002_2019] at BK217)
 (try simp only [hl225002_2019] at BK224)
 (try simp only [hl225002_2019] at BK249)
 (try simp only [hl225002_2019] at HO_212002)
 (try simp only [hl225002_2019] at HO_218002)
 (try simp only [hl225002_2019] at HO_250002)
 cases kq with
 | zero => exact absurd HA.out (by simp [laws_FnExactBoardTimeout.j2])
 | succ kj2019 => {
 have H := HA.out
 clear HA
 simp only [laws_FnExactBoardTimeout.j2] at H
 by_cases c3024 : x87_2019 = true
 subst c3024
 have H1 : (some false) = some r := by rw [if_pos rfl] at H; exact H
 clear H
 have H := H1
 clear H1
 obtain rfl := Option.some.inj H
 rotate_left
 replace c3024 := Bool.eq_false_iff.mpr c3024
 subst c3024
 have H1 : ((laws_heldBoard.f kj2019 t218 t219 t236 1).bind fun t251 => (if t251 < 0 then (some false) else (if t251 = t235 then (some true) else (some false)))) = some r := by rw [if_neg (show ¬ (false = true) by decide)] at H; exact H
 clear H
 have H := H1
 clear H1
 replace H := Option.bind_eq_some_iff.mp H
 obtain ⟨t251, A30250, H⟩ := H
 replace H : (if t251 < 0 then (some false) else (if t251 = t235 then (some true) else (some false))) = some r := H
 have A3025 := Aside0.mk A30250
 clear A30250
 by_cases c3026 : t251 < 0
 rw [if_pos c3026] at H
 have c3026b0 : decide (t251 < 0) = true := decide_eq_true c3026
 clear c3026
 obtain rfl := Option.some.inj H
 rotate_left
 rw [if_neg c3026] at H
 have c3026b0 : decide (t251 < 0) = false := decide_eq_false c3026
 clear c3026
 by_cases c3027 : t251 = t235
 rw [if_pos c3027] at H
 have c3027b0 : (t251 == t235) = true := beq_iff_eq.mpr c3027
 have c3027b1 : (t251 != t235) = false := bne_eq_false_iff_eq.mpr c3027
 clear c3027
 obtain rfl := Option.some.inj H
 rotate_left
 rw [if_neg c3027] at H
 have c3027b0 : (t251 == t235) = false := beq_eq_false_iff_ne.mpr c3027
 have c3027b1 : (t251 != t235) = true := bne_iff_ne.mpr c3027
 obtain rfl := Option.some.inj H
 rotate_left
 {
 go_wp2
 go_ret
 exact ⟨by first | rfl | (simp [errW_none, errW_some] <;> rfl) | (simp [*, errW_none, errW_some] <;> rfl), wB⟩
 }
 all_goals (
 have hnb4001 := NB224_198.out
 have hnc4001 := NB198_224.out
 have hnb4002 := NB224_211.out
 have hnc4002 := NB211_224.out
 have hnb4003 := NB224_217.out
 have hnc4003 := NB217_224.out
 have hnb4004 := NB224_249.out
 have hnc4004 := NB249_224.out
 obtain ⟨⟨hcz4005_0, hcz4005_1, hcz4005_2⟩, hfz4005_0, hfz4005_1, hfz4005_2⟩ := cells3 BK224.out
 go_wp2_with (first | ((with_reducible refine gate_callee (f := 42) rfl ?_); refine goesL_ (some 90) rfl rfl Try.func42 (by kernel_rfl) rfl #[.agg #[.int .i64 t218, .int .i64 t219, .slice Ao1028 t236.length co1028], .int .i64 1] rfl wT ?_; (with_reducible refine (laws_heldBoard.calls kj2019 t218 t219 _ _ t236 1 t251 _ ?side1 ?side2 A3025.out).mono ?_); (case side1 => exact Ch HO_225002); (case side2 => exact (Kd.R_reads' HO_225002.out).2.1); rintro e w4006 ⟨rfl, hb⟩; refine ⟨_, rfl, ?_⟩; have n0_ := Aside0.mk (Kd.R_below (Rh HO_212002) hb); have n1_ := Aside0.mk (Kd.R_below (Rh HO_218002) hb); have n2_ := Aside0.mk (Kd.R_below (Rh HO_225002) hb); have n3_ := Aside0.mk (Kd.R_below (Rh HO_250002) hb); have n4_ := Aside0.mk (blk_below (Bh BK198) hb); have n5_ := Aside0.mk (blk_below (Bh BK211) hb); have n6_ := Aside0.mk (blk_below (Bh BK217) hb); have n7_ := Aside0.mk (blk_below (Bh BK224) hb); have n8_ := Aside0.mk (blk_below (Bh BK249) hb); have n9_ := Aside0.mk (below_step wB hb); clear HO_212002; clear HO_218002; clear HO_225002; clear HO_250002; clear BK198; clear BK211; clear BK217; clear BK224; clear BK249; clear HB; have HO_212002 := n0_; have HO_218002 := n1_; have HO_225002 := n2_; have HO_250002 := n3_; have BK198 := n4_; have BK211 := n5_; have BK217 := n6_; have BK224 := n7_; have BK249 := n8_; have HB := n9_; clear n0_ n1_ n2_ n3_ n4_ n5_ n6_ n7_ n8_ n9_; (try clear hb); (try clear hb2); (try clear hk); (try clear hi)))
 go_ret
 exact ⟨by first | rfl | (simp [errW_none, errW_some] <;> rfl) | (simp [*, errW_none, errW_some] <;> rfl), wB⟩
 )
 }
 )
 }
 {
 go_wp2_with (first | ((with_reducible refine gate_callee (f := 41) rfl ?_); refine goesL_ (some 64) rfl rfl Try.func41 (by kernel_rfl) rfl #[.agg #[.int .i64 t218, .int .i64 t219, .slice Ao1028 t220.length co1028], .int .i64 1] rfl wT ?_; (with_reducible refine (laws_markBoard.calls kj1036 t218 t219 (fun k_ => some k_ = (.slice Ao1028 t220.length co1028 : Value).ownBlock) (.slice Ao1028 t220.length co1028) t220 1 t235 t236 w _ ?side1 ?side2 A2014.out).mono ?_); (case side1 => repeat (first | (with_reducible first | exact HB.out | apply below_alloc | apply pw_below_drewN | apply below_drew1 | refine below_set ?_ GE198.out | refine below_set ?_ GE211.out | refine below_set ?_ GE217.out | refine below_set ?_ GE224.out) | exact HB.out)); (case side2 => exact Kd.R_tight rfl HO_225002.out); rintro e w3005 ⟨rfl, hy0, hb, hkp⟩; refine ⟨_, rfl, ?_⟩; have n0_ := Aside0.mk (Kd.R_mono (ok' := fun k_ => some k_ ≠ (.slice Ao1019 t233.length co1019 : Value).ownBlock ∧ some k_ ≠ (.slice Ao1028 t220.length co1028 : Value).ownBlock) (Kd.R_keptB (HO_212002.out) hkp (fun k_ hk_ hs_ => (hk_.2) hs_)) (fun k_ hk_ => ⟨hk_.1.1, hk_.1.2⟩)); have n1_ := Aside0.mk (Kd.R_mono (ok' := fun k_ => some k_ ≠ (.slice Ao1011 t207.length co1011 : Value).ownBlock ∧ some k_ ≠ (.slice Ao1028 t220.length co1028 : Value).ownBlock) (Kd.R_keptB (HO_218002.out) hkp (fun k_ hk_ hs_ => (hk_.2) hs_)) (fun k_ hk_ => ⟨hk_.1.1, hk_.1.2⟩)); have n2_ := Aside0.mk (Kd.R_reok rfl hy0 (fun k_ e_ => HO_225002.out.1 k_ e_)); have n3_ := Aside0.mk (blk_kept (Bh BK198) hkp (fun hs_ => (fun e_ => (Kd.R_ne HO_225002.out BK198.out (by decide)) e_) hs_)); have n4_ := Aside0.mk (blk_kept (Bh BK211) hkp (fun hs_ => (fun e_ => (Kd.R_ne HO_225002.out BK211.out (by decide)) e_) hs_)); have n5_ := Aside0.mk (blk_kept (Bh BK217) hkp (fun hs_ => (fun e_ => (Kd.R_ne HO_225002.out BK217.out (by decide)) e_) hs_)); have n6_ := Aside0.mk (blk_kept (Bh BK224) hkp (fun hs_ => (fun e_ => (Kd.R_ne HO_225002.out BK224.out (by decide)) e_) hs_)); have n7_ := Aside0.mk (hb); clear HO_212002; clear HO_218002; clear HO_225002; clear BK198; clear BK211; clear BK217; clear BK224; clear HB; have HO_212002 := n0_; have HO_218002 := n1_; have HO_225002 := n2_; have BK198 := n3_; have BK211 := n4_; have BK217 := n5_; have BK224 := n6_; have HB := n7_; clear n0_ n1_ n2_ n3_ n4_ n5_ n6_ n7_; (try clear hb); (try clear hkp); (try clear hy0); obtain ⟨⟨hcz3006_0, hcz3006_1, hcz3006_2⟩, hfz3006_0, hfz3006_1, hfz3006_2⟩ := cells3 BK224.out) | ((with_reducible refine gate_callee (f := 42) rfl ?_); refine goesL_ (some 67) rfl rfl Try.func42 (by kernel_rfl) rfl #[.agg #[.int .i64 t218, .int .i64 t219, .slice Ao1028 t236.length co1028], .int .i64 1] rfl (by (try simp only [List.map_toArray, List.map_cons, List.map_nil]); first | done | (rw [show t236.length = t220.length from (Kd.R_reads' HO_225002.out).1.symm] <;> rfl) | rfl | (simp only [List.length_drop, List.length_take]; rfl)) ?_; (with_reducible refine (laws_heldBoard.calls kj1036 t218 t219 _ _ t236 1 t237 _ ?side1 ?side2 A2015.out).mono ?_); (case side1 => exact Ch HO_225002); (case side2 => rw [show t236.length = t220.length from (Kd.R_reads' HO_225002.out).1.symm]; exact (Kd.R_reads' HO_225002.out).2.1); rintro e w3007 ⟨rfl, hb⟩; refine ⟨_, rfl, ?_⟩; have n0_ := Aside0.mk (Kd.R_below (Rh HO_212002) hb); have n1_ := Aside0.mk (Kd.R_below (Rh HO_218002) hb); have n2_ := Aside0.mk (Kd.R_below (Rh HO_225002) hb); have n3_ := Aside0.mk (blk_below (Bh BK198) hb); have n4_ := Aside0.mk (blk_below (Bh BK211) hb); have n5_ := Aside0.mk (blk_below (Bh BK217) hb); have n6_ := Aside0.mk (blk_below (Bh BK224) hb); have n7_ := Aside0.mk (below_step wB hb); clear HO_212002; clear HO_218002; clear HO_225002; clear BK198; clear BK211; clear BK217; clear BK224; clear HB; have HO_212002 := n0_; have HO_218002 := n1_; have HO_225002 := n2_; have BK198 := n3_; have BK211 := n4_; have BK217 := n5_; have BK224 := n6_; have HB := n7_; clear n0_ n1_ n2_ n3_ n4_ n5_ n6_ n7_; (try clear hb); (try clear hb2); (try clear hk); (try clear hi)))
 go_ret
 exact ⟨by first | rfl | (simp [errW_none, errW_some] <;> rfl) | (simp [*, errW_none, errW_some] <;> rfl), wB⟩
 }
 }
 )
 }
 {
 try go_wp2
 go_ret
 exact ⟨by first | rfl | (simp [errW_none, errW_some] <;> rfl) | (simp [*, errW_none, errW_some] <;> rfl), wB⟩
 }
 }
 )
 }

end Go.Proofs.Ytkfbcmbemihbnaa.PFnExactBoardTimeout
