-- Written for this claim by a program of this session (wip/mkprint.py: the print, turned at a few places). Not trusted: Lean checks it.
import Derived.Test.YtfllcmeakcbiaaaPFnExactDecodeSegmentx0
import Derived.Test.YtfllcmeakcbiaaaPFnExactDecodeSegmentx4
import Derived.Test.YtfllcmeakcbiaaaPFnExactDecodeSegmentx5
import Derived.Test.YtfllcmeakcbiaaaPFnExactDecodeSegmentx6
import Derived.Test.YtfllcmeakcbiaaaPFnExactDecodeSegmentx7
import Derived.Test.YtfllcmeakcbiaaaPFnExactDecodeSegmentx8
namespace Go.Proofs.Ytfllcmeakcbiaaa.PFnExactDecodeSegment
open Go.RowKit Go.Proofs.YtfllcmeakcbiaaaW.PrintWords Go.Proofs.YtfllcmeakcbiaaaW.PrintLast Go.Proofs.YtfllcmeakcbiaaaW.PrintMore
attribute [local go_sem] max2_int min2_int max_two min_two max_three min_three max_four min_four   -- for this text's walks alone
set_option linter.unusedVariables false
set_option linter.unusedSimpArgs false

/-! ### laws_FnExactDecodeSegment: function 3 -/
mutual
def laws_FnExactDecodeSegment.j0 : Nat → List Int → Int → Int → Int → List Int → Int → Bool → Int → Int → Int → Int → Int → Int → Int → Bool → Int → Bool → List (S60) → List Int → Int → Int → Int → Int → Int → Int → Int → Bool → Int → Bool → List (S60) → List Int → Option (Bool)
  | 0, _, _, _, _, _, _, _, _, _, _, _, _, _, _, _, _, _, _, _, _, _, _, _, _, _, _, _, _, _, _, _ => none
  | k + 1, x0, x1, x2, x8, x9, x11, x45, x251000, x251001, x251002, x251003, x251004, x251005, x251006, x251007, x251008, x251009, x251010, x251011, x272000, x272001, x272002, x272003, x272004, x272005, x272006, x272007, x272008, x272009, x272010, x272011 => if x45 = true then (some false) else ((laws_toByteS.f k x0).bind fun t273 => ((laws_eqByteS.f k x9 t273).bind fun t276 => (if t276 = true then ((laws_markByteS.f k x9 1).bind fun bt277 => (if bt277.1 < 0 then (laws_FnExactDecodeSegment.j1 k x0 x1 x2 x8 true x251000 x251001 x251002 x251003 x251004 x251005 x251006 x251007 x251008 x251009 x251010 x251011 x272000 x272001 x272002 x272003 x272004 x272005 x272006 x272007 x272008 x272009 x272010 x272011) else ((laws_eqSegment.f k x272000 x272001 x272002 x272003 x272004 x272005 x272006 x272007 x272008 x272009 x272010 x272011 x251000 x251001 x251002 x251003 x251004 x251005 x251006 x251007 x251008 x251009 x251010 x251011).bind fun t279 => (if t279 = true then (laws_FnExactDecodeSegment.j1 k x0 x1 x2 x8 (x11 != x8) x251000 x251001 x251002 x251003 x251004 x251005 x251006 x251007 x251008 x251009 x251010 x251011 x272000 x272001 x272002 x272003 x272004 x272005 x272006 x272007 x272008 x272009 x272010 x272011) else (laws_FnExactDecodeSegment.j1 k x0 x1 x2 x8 true x251000 x251001 x251002 x251003 x251004 x251005 x251006 x251007 x251008 x251009 x251010 x251011 x272000 x272001 x272002 x272003 x272004 x272005 x272006 x272007 x272008 x272009 x272010 x272011))))) else (some false))))
def laws_FnExactDecodeSegment.j1 : Nat → List Int → Int → Int → Int → Bool → Int → Int → Int → Int → Int → Int → Int → Bool → Int → Bool → List (S60) → List Int → Int → Int → Int → Int → Int → Int → Int → Bool → Int → Bool → List (S60) → List Int → Option (Bool)
  | 0, _, _, _, _, _, _, _, _, _, _, _, _, _, _, _, _, _, _, _, _, _, _, _, _, _, _, _, _, _ => none
  | k + 1, x0, x1, x2, x8, x66, x251000, x251001, x251002, x251003, x251004, x251005, x251006, x251007, x251008, x251009, x251010, x251011, x272000, x272001, x272002, x272003, x272004, x272005, x272006, x272007, x272008, x272009, x272010, x272011 => if x66 = true then (some false) else ((laws_markSegment.f k x272000 x272001 x272002 x272003 x272004 x272005 x272006 x272007 x272008 x272009 x272010 x272011 1).bind fun bt280 => ((laws_heldSegment.f k x272000 x272001 x272002 x272003 x272004 x272005 x272006 x272007 x272008 x272009 bt280.2.1 bt280.2.2 1).bind fun t283 => (if t283 < 0 then (some false) else (if t283 = bt280.1 then ((laws_toByteS.f k x0).bind fun t284 => ((impl_DecodeSegment.f k t284 x1 x2).bind fun bt287 => ((laws_eqSegment.f k bt287.1 bt287.2.1 bt287.2.2.1 bt287.2.2.2.1 bt287.2.2.2.2.1 bt287.2.2.2.2.2.1 bt287.2.2.2.2.2.2.1 bt287.2.2.2.2.2.2.2.1 bt287.2.2.2.2.2.2.2.2.1 bt287.2.2.2.2.2.2.2.2.2.1 bt287.2.2.2.2.2.2.2.2.2.2.1 bt287.2.2.2.2.2.2.2.2.2.2.2.1 x251000 x251001 x251002 x251003 x251004 x251005 x251006 x251007 x251008 x251009 x251010 x251011).bind fun t305 => (if t305 = true then (laws_FnExactDecodeSegment.j2 k bt280.1 (bt287.2.2.2.2.2.2.2.2.2.2.2.2 != x8) x272000 x272001 x272002 x272003 x272004 x272005 x272006 x272007 x272008 x272009 bt280.2.1 bt280.2.2) else (laws_FnExactDecodeSegment.j2 k bt280.1 true x272000 x272001 x272002 x272003 x272004 x272005 x272006 x272007 x272008 x272009 bt280.2.1 bt280.2.2))))) else (some false)))))
def laws_FnExactDecodeSegment.j2 : Nat → Int → Bool → Int → Int → Int → Int → Int → Int → Int → Bool → Int → Bool → List (S60) → List Int → Option (Bool)
  | 0, _, _, _, _, _, _, _, _, _, _, _, _, _, _ => none
  | k + 1, x13, x94, x272000, x272001, x272002, x272003, x272004, x272005, x272006, x272007, x272008, x272009, x272010, x272011 => if x94 = true then (some false) else ((laws_heldSegment.f k x272000 x272001 x272002 x272003 x272004 x272005 x272006 x272007 x272008 x272009 x272010 x272011 1).bind fun t306 => (if t306 < 0 then (some false) else (if t306 = x13 then (some true) else (some false))))
end
def laws_FnExactDecodeSegment.f (k : Nat) (l0 : List Int) (a1 : Int) (a2 : Int) : Option (Bool) := if (l0.length : Int) > 1048576 then (some true) else ((laws_toByteS.f k l0).bind fun t230 => ((spec_DecodeSegment.f k t230 a1 a2).bind fun bt233 => ((laws_toByteS.f k l0).bind fun t251 => ((impl_DecodeSegment.f k t251 a1 a2).bind fun bt254 => ((laws_eqSegment.f k bt254.1 bt254.2.1 bt254.2.2.1 bt254.2.2.2.1 bt254.2.2.2.2.1 bt254.2.2.2.2.2.1 bt254.2.2.2.2.2.2.1 bt254.2.2.2.2.2.2.2.1 bt254.2.2.2.2.2.2.2.2.1 bt254.2.2.2.2.2.2.2.2.2.1 bt254.2.2.2.2.2.2.2.2.2.2.1 bt254.2.2.2.2.2.2.2.2.2.2.2.1 bt233.1 bt233.2.1 bt233.2.2.1 bt233.2.2.2.1 bt233.2.2.2.2.1 bt233.2.2.2.2.2.1 bt233.2.2.2.2.2.2.1 bt233.2.2.2.2.2.2.2.1 bt233.2.2.2.2.2.2.2.2.1 bt233.2.2.2.2.2.2.2.2.2.1 bt233.2.2.2.2.2.2.2.2.2.2.1 bt233.2.2.2.2.2.2.2.2.2.2.2.1).bind fun t272 => (if t272 = true then (laws_FnExactDecodeSegment.j0 k l0 a1 a2 bt233.2.2.2.2.2.2.2.2.2.2.2.2 t251 bt254.2.2.2.2.2.2.2.2.2.2.2.2 (bt254.2.2.2.2.2.2.2.2.2.2.2.2 != bt233.2.2.2.2.2.2.2.2.2.2.2.2) bt233.1 bt233.2.1 bt233.2.2.1 bt233.2.2.2.1 bt233.2.2.2.2.1 bt233.2.2.2.2.2.1 bt233.2.2.2.2.2.2.1 bt233.2.2.2.2.2.2.2.1 bt233.2.2.2.2.2.2.2.2.1 bt233.2.2.2.2.2.2.2.2.2.1 bt233.2.2.2.2.2.2.2.2.2.2.1 bt233.2.2.2.2.2.2.2.2.2.2.2.1 bt254.1 bt254.2.1 bt254.2.2.1 bt254.2.2.2.1 bt254.2.2.2.2.1 bt254.2.2.2.2.2.1 bt254.2.2.2.2.2.2.1 bt254.2.2.2.2.2.2.2.1 bt254.2.2.2.2.2.2.2.2.1 bt254.2.2.2.2.2.2.2.2.2.1 bt254.2.2.2.2.2.2.2.2.2.2.1 bt254.2.2.2.2.2.2.2.2.2.2.2.1) else (laws_FnExactDecodeSegment.j0 k l0 a1 a2 bt233.2.2.2.2.2.2.2.2.2.2.2.2 t251 bt254.2.2.2.2.2.2.2.2.2.2.2.2 true bt233.1 bt233.2.1 bt233.2.2.1 bt233.2.2.2.1 bt233.2.2.2.2.1 bt233.2.2.2.2.2.1 bt233.2.2.2.2.2.2.1 bt233.2.2.2.2.2.2.2.1 bt233.2.2.2.2.2.2.2.2.1 bt233.2.2.2.2.2.2.2.2.2.1 bt233.2.2.2.2.2.2.2.2.2.2.1 bt233.2.2.2.2.2.2.2.2.2.2.2.1 bt254.1 bt254.2.1 bt254.2.2.1 bt254.2.2.2.1 bt254.2.2.2.2.1 bt254.2.2.2.2.2.1 bt254.2.2.2.2.2.2.1 bt254.2.2.2.2.2.2.2.1 bt254.2.2.2.2.2.2.2.2.1 bt254.2.2.2.2.2.2.2.2.2.1 bt254.2.2.2.2.2.2.2.2.2.2.1 bt254.2.2.2.2.2.2.2.2.2.2.2.1)))))))
theorem laws_FnExactDecodeSegment.mono_l : ∀ k, (∀ y0 y1 y2 y3 y4 y5 y6 y7 y8 y9 y10 y11 y12 y13 y14 y15 y16 y17 y18 y19 y20 y21 y22 y23 y24 y25 y26 y27 y28 y29 y30, LeO (laws_FnExactDecodeSegment.j0 k y0 y1 y2 y3 y4 y5 y6 y7 y8 y9 y10 y11 y12 y13 y14 y15 y16 y17 y18 y19 y20 y21 y22 y23 y24 y25 y26 y27 y28 y29 y30) (laws_FnExactDecodeSegment.j0 (k + 1) y0 y1 y2 y3 y4 y5 y6 y7 y8 y9 y10 y11 y12 y13 y14 y15 y16 y17 y18 y19 y20 y21 y22 y23 y24 y25 y26 y27 y28 y29 y30)) ∧ (∀ y0 y1 y2 y3 y4 y5 y6 y7 y8 y9 y10 y11 y12 y13 y14 y15 y16 y17 y18 y19 y20 y21 y22 y23 y24 y25 y26 y27 y28, LeO (laws_FnExactDecodeSegment.j1 k y0 y1 y2 y3 y4 y5 y6 y7 y8 y9 y10 y11 y12 y13 y14 y15 y16 y17 y18 y19 y20 y21 y22 y23 y24 y25 y26 y27 y28) (laws_FnExactDecodeSegment.j1 (k + 1) y0 y1 y2 y3 y4 y5 y6 y7 y8 y9 y10 y11 y12 y13 y14 y15 y16 y17 y18 y19 y20 y21 y22 y23 y24 y25 y26 y27 y28)) ∧ (∀ y0 y1 y2 y3 y4 y5 y6 y7 y8 y9 y10 y11 y12 y13, LeO (laws_FnExactDecodeSegment.j2 k y0 y1 y2 y3 y4 y5 y6 y7 y8 y9 y10 y11 y12 y13) (laws_FnExactDecodeSegment.j2 (k + 1) y0 y1 y2 y3 y4 y5 y6 y7 y8 y9 y10 y11 y12 y13))
  | 0 => ⟨fun _ _ _ _ _ _ _ _ _ _ _ _ _ _ _ _ _ _ _ _ _ _ _ _ _ _ _ _ _ _ _ r h => by simp [laws_FnExactDecodeSegment.j0] at h, fun _ _ _ _ _ _ _ _ _ _ _ _ _ _ _ _ _ _ _ _ _ _ _ _ _ _ _ _ _ r h => by simp [laws_FnExactDecodeSegment.j1] at h, fun _ _ _ _ _ _ _ _ _ _ _ _ _ _ r h => by simp [laws_FnExactDecodeSegment.j2] at h⟩
  | k + 1 => by
    obtain ⟨ih0, ih1, ih2⟩ := laws_FnExactDecodeSegment.mono_l k
    refine ⟨?_, ?_, ?_⟩
    · intro y0 y1 y2 y3 y4 y5 y6 y7 y8 y9 y10 y11 y12 y13 y14 y15 y16 y17 y18 y19 y20 y21 y22 y23 y24 y25 y26 y27 y28 y29 y30
      unfold laws_FnExactDecodeSegment.j0
      repeat' first
      | (with_reducible exact ih0 _ _ _ _ _ _ _ _ _ _ _ _ _ _ _ _ _ _ _ _ _ _ _ _ _ _ _ _ _ _ _)
      | (with_reducible exact ih1 _ _ _ _ _ _ _ _ _ _ _ _ _ _ _ _ _ _ _ _ _ _ _ _ _ _ _ _ _)
      | (with_reducible exact ih2 _ _ _ _ _ _ _ _ _ _ _ _ _ _)
      | (with_reducible exact impl_DecodeSegment.mono _ _ _ _)
      | (with_reducible exact laws_eqByteS.mono _ _ _)
      | (with_reducible exact laws_eqSegment.mono _ _ _ _ _ _ _ _ _ _ _ _ _ _ _ _ _ _ _ _ _ _ _ _ _)
      | (with_reducible exact laws_heldSegment.mono _ _ _ _ _ _ _ _ _ _ _ _ _ _)
      | (with_reducible exact laws_markByteS.mono _ _ _)
      | (with_reducible exact laws_markSegment.mono _ _ _ _ _ _ _ _ _ _ _ _ _ _)
      | (with_reducible exact laws_toByteS.mono _ _)
      | (with_reducible exact spec_DecodeSegment.mono _ _ _ _)
      | (with_reducible exact LeO.refl _)
      | (with_reducible exact LeO.none _)
      | (with_reducible refine LeO.ite ?_ ?_)
      | (with_reducible refine LeO.bind ?_ (fun _ => ?_))
      | exact ih0 _ _ _ _ _ _ _ _ _ _ _ _ _ _ _ _ _ _ _ _ _ _ _ _ _ _ _ _ _ _ _
      | exact ih1 _ _ _ _ _ _ _ _ _ _ _ _ _ _ _ _ _ _ _ _ _ _ _ _ _ _ _ _ _
      | exact ih2 _ _ _ _ _ _ _ _ _ _ _ _ _ _
      | exact impl_DecodeSegment.mono _ _ _ _
      | exact laws_eqByteS.mono _ _ _
      | exact laws_eqSegment.mono _ _ _ _ _ _ _ _ _ _ _ _ _ _ _ _ _ _ _ _ _ _ _ _ _
      | exact laws_heldSegment.mono _ _ _ _ _ _ _ _ _ _ _ _ _ _
      | exact laws_markByteS.mono _ _ _
      | exact laws_markSegment.mono _ _ _ _ _ _ _ _ _ _ _ _ _ _
      | exact laws_toByteS.mono _ _
      | exact spec_DecodeSegment.mono _ _ _ _
      | exact LeO.none _
      | refine LeO.ite ?_ ?_
      | refine LeO.bind ?_ (fun _ => ?_)
    · intro y0 y1 y2 y3 y4 y5 y6 y7 y8 y9 y10 y11 y12 y13 y14 y15 y16 y17 y18 y19 y20 y21 y22 y23 y24 y25 y26 y27 y28
      unfold laws_FnExactDecodeSegment.j1
      repeat' first
      | (with_reducible exact ih0 _ _ _ _ _ _ _ _ _ _ _ _ _ _ _ _ _ _ _ _ _ _ _ _ _ _ _ _ _ _ _)
      | (with_reducible exact ih1 _ _ _ _ _ _ _ _ _ _ _ _ _ _ _ _ _ _ _ _ _ _ _ _ _ _ _ _ _)
      | (with_reducible exact ih2 _ _ _ _ _ _ _ _ _ _ _ _ _ _)
      | (with_reducible exact impl_DecodeSegment.mono _ _ _ _)
      | (with_reducible exact laws_eqByteS.mono _ _ _)
      | (with_reducible exact laws_eqSegment.mono _ _ _ _ _ _ _ _ _ _ _ _ _ _ _ _ _ _ _ _ _ _ _ _ _)
      | (with_reducible exact laws_heldSegment.mono _ _ _ _ _ _ _ _ _ _ _ _ _ _)
      | (with_reducible exact laws_markByteS.mono _ _ _)
      | (with_reducible exact laws_markSegment.mono _ _ _ _ _ _ _ _ _ _ _ _ _ _)
      | (with_reducible exact laws_toByteS.mono _ _)
      | (with_reducible exact spec_DecodeSegment.mono _ _ _ _)
      | (with_reducible exact LeO.refl _)
      | (with_reducible exact LeO.none _)
      | (with_reducible refine LeO.ite ?_ ?_)
      | (with_reducible refine LeO.bind ?_ (fun _ => ?_))
      | exact ih0 _ _ _ _ _ _ _ _ _ _ _ _ _ _ _ _ _ _ _ _ _ _ _ _ _ _ _ _ _ _ _
      | exact ih1 _ _ _ _ _ _ _ _ _ _ _ _ _ _ _ _ _ _ _ _ _ _ _ _ _ _ _ _ _
      | exact ih2 _ _ _ _ _ _ _ _ _ _ _ _ _ _
      | exact impl_DecodeSegment.mono _ _ _ _
      | exact laws_eqByteS.mono _ _ _
      | exact laws_eqSegment.mono _ _ _ _ _ _ _ _ _ _ _ _ _ _ _ _ _ _ _ _ _ _ _ _ _
      | exact laws_heldSegment.mono _ _ _ _ _ _ _ _ _ _ _ _ _ _
      | exact laws_markByteS.mono _ _ _
      | exact laws_markSegment.mono _ _ _ _ _ _ _ _ _ _ _ _ _ _
      | exact laws_toByteS.mono _ _
      | exact spec_DecodeSegment.mono _ _ _ _
      | exact LeO.none _
      | refine LeO.ite ?_ ?_
      | refine LeO.bind ?_ (fun _ => ?_)
    · intro y0 y1 y2 y3 y4 y5 y6 y7 y8 y9 y10 y11 y12 y13
      unfold laws_FnExactDecodeSegment.j2
      repeat' first
      | (with_reducible exact ih0 _ _ _ _ _ _ _ _ _ _ _ _ _ _ _ _ _ _ _ _ _ _ _ _ _ _ _ _ _ _ _)
      | (with_reducible exact ih1 _ _ _ _ _ _ _ _ _ _ _ _ _ _ _ _ _ _ _ _ _ _ _ _ _ _ _ _ _)
      | (with_reducible exact ih2 _ _ _ _ _ _ _ _ _ _ _ _ _ _)
      | (with_reducible exact impl_DecodeSegment.mono _ _ _ _)
      | (with_reducible exact laws_eqByteS.mono _ _ _)
      | (with_reducible exact laws_eqSegment.mono _ _ _ _ _ _ _ _ _ _ _ _ _ _ _ _ _ _ _ _ _ _ _ _ _)
      | (with_reducible exact laws_heldSegment.mono _ _ _ _ _ _ _ _ _ _ _ _ _ _)
      | (with_reducible exact laws_markByteS.mono _ _ _)
      | (with_reducible exact laws_markSegment.mono _ _ _ _ _ _ _ _ _ _ _ _ _ _)
      | (with_reducible exact laws_toByteS.mono _ _)
      | (with_reducible exact spec_DecodeSegment.mono _ _ _ _)
      | (with_reducible exact LeO.refl _)
      | (with_reducible exact LeO.none _)
      | (with_reducible refine LeO.ite ?_ ?_)
      | (with_reducible refine LeO.bind ?_ (fun _ => ?_))
      | exact ih0 _ _ _ _ _ _ _ _ _ _ _ _ _ _ _ _ _ _ _ _ _ _ _ _ _ _ _ _ _ _ _
      | exact ih1 _ _ _ _ _ _ _ _ _ _ _ _ _ _ _ _ _ _ _ _ _ _ _ _ _ _ _ _ _
      | exact ih2 _ _ _ _ _ _ _ _ _ _ _ _ _ _
      | exact impl_DecodeSegment.mono _ _ _ _
      | exact laws_eqByteS.mono _ _ _
      | exact laws_eqSegment.mono _ _ _ _ _ _ _ _ _ _ _ _ _ _ _ _ _ _ _ _ _ _ _ _ _
      | exact laws_heldSegment.mono _ _ _ _ _ _ _ _ _ _ _ _ _ _
      | exact laws_markByteS.mono _ _ _
      | exact laws_markSegment.mono _ _ _ _ _ _ _ _ _ _ _ _ _ _
      | exact laws_toByteS.mono _ _
      | exact spec_DecodeSegment.mono _ _ _ _
      | exact LeO.none _
      | refine LeO.ite ?_ ?_
      | refine LeO.bind ?_ (fun _ => ?_)
theorem laws_FnExactDecodeSegment.mono : ∀ a0 a1 a2 k, LeO (laws_FnExactDecodeSegment.f k a0 a1 a2) (laws_FnExactDecodeSegment.f (k + 1) a0 a1 a2) := by
 intro a0 a1 a2 k
 obtain ⟨ih0, ih1, ih2⟩ := laws_FnExactDecodeSegment.mono_l k
 unfold laws_FnExactDecodeSegment.f
 repeat' first
     | (with_reducible exact ih0 _ _ _ _ _ _ _ _ _ _ _ _ _ _ _ _ _ _ _ _ _ _ _ _ _ _ _ _ _ _ _)
     | (with_reducible exact ih1 _ _ _ _ _ _ _ _ _ _ _ _ _ _ _ _ _ _ _ _ _ _ _ _ _ _ _ _ _)
     | (with_reducible exact ih2 _ _ _ _ _ _ _ _ _ _ _ _ _ _)
     | (with_reducible exact impl_DecodeSegment.mono _ _ _ _)
     | (with_reducible exact laws_eqByteS.mono _ _ _)
     | (with_reducible exact laws_eqSegment.mono _ _ _ _ _ _ _ _ _ _ _ _ _ _ _ _ _ _ _ _ _ _ _ _ _)
     | (with_reducible exact laws_heldSegment.mono _ _ _ _ _ _ _ _ _ _ _ _ _ _)
     | (with_reducible exact laws_markByteS.mono _ _ _)
     | (with_reducible exact laws_markSegment.mono _ _ _ _ _ _ _ _ _ _ _ _ _ _)
     | (with_reducible exact laws_toByteS.mono _ _)
     | (with_reducible exact spec_DecodeSegment.mono _ _ _ _)
     | (with_reducible exact LeO.refl _)
     | (with_reducible exact LeO.none _)
     | (with_reducible refine LeO.ite ?_ ?_)
     | (with_reducible refine LeO.bind ?_ (fun _ => ?_))
     | exact ih0 _ _ _ _ _ _ _ _ _ _ _ _ _ _ _ _ _ _ _ _ _ _ _ _ _ _ _ _ _ _ _
     | exact ih1 _ _ _ _ _ _ _ _ _ _ _ _ _ _ _ _ _ _ _ _ _ _ _ _ _ _ _ _ _
     | exact ih2 _ _ _ _ _ _ _ _ _ _ _ _ _ _
     | exact impl_DecodeSegment.mono _ _ _ _
     | exact laws_eqByteS.mono _ _ _
     | exact laws_eqSegment.mono _ _ _ _ _ _ _ _ _ _ _ _ _ _ _ _ _ _ _ _ _ _ _ _ _
     | exact laws_heldSegment.mono _ _ _ _ _ _ _ _ _ _ _ _ _ _
     | exact laws_markByteS.mono _ _ _
     | exact laws_markSegment.mono _ _ _ _ _ _ _ _ _ _ _ _ _ _
     | exact laws_toByteS.mono _ _
     | exact spec_DecodeSegment.mono _ _ _ _
     | exact LeO.none _
     | refine LeO.ite ?_ ?_
     | refine LeO.bind ?_ (fun _ => ?_)
set_option maxHeartbeats 60000000 in
set_option maxRecDepth 100000 in
theorem laws_FnExactDecodeSegment.calls (k : Nat) (A0 : Option Addr) (c0 : Nat) (l0 : List Int) (a1 : Int) (a2 : Int) (r : Bool) (w : World) (hr0 : Kd.C (Kd.int .u8) w A0 l0.length l0) (hc0 : l0.length ≤ c0) (h : laws_FnExactDecodeSegment.f k l0 a1 a2 = some r) :
 Calls Try.prog 3 #[.slice A0 l0.length c0, .int .i64 a1, .int .i64 a2] w fun e w' => e = .returned (.bool r) ∧ Below w.heap.size w w' := by
 have hu25 := Try.underlying25
 have HR0 := Aside0.mk hr0
 have HC0 := Aside0.mk hc0
 clear hr0 hc0
 have HB := Aside0.mk (Below.refl w.heap.size w)
 have H : (if (l0.length : Int) > 1048576 then (some true) else ((laws_toByteS.f k l0).bind fun t230 => ((spec_DecodeSegment.f k t230 a1 a2).bind fun bt233 => ((laws_toByteS.f k l0).bind fun t251 => ((impl_DecodeSegment.f k t251 a1 a2).bind fun bt254 => ((laws_eqSegment.f k bt254.1 bt254.2.1 bt254.2.2.1 bt254.2.2.2.1 bt254.2.2.2.2.1 bt254.2.2.2.2.2.1 bt254.2.2.2.2.2.2.1 bt254.2.2.2.2.2.2.2.1 bt254.2.2.2.2.2.2.2.2.1 bt254.2.2.2.2.2.2.2.2.2.1 bt254.2.2.2.2.2.2.2.2.2.2.1 bt254.2.2.2.2.2.2.2.2.2.2.2.1 bt233.1 bt233.2.1 bt233.2.2.1 bt233.2.2.2.1 bt233.2.2.2.2.1 bt233.2.2.2.2.2.1 bt233.2.2.2.2.2.2.1 bt233.2.2.2.2.2.2.2.1 bt233.2.2.2.2.2.2.2.2.1 bt233.2.2.2.2.2.2.2.2.2.1 bt233.2.2.2.2.2.2.2.2.2.2.1 bt233.2.2.2.2.2.2.2.2.2.2.2.1).bind fun t272 => (if t272 = true then (laws_FnExactDecodeSegment.j0 k l0 a1 a2 bt233.2.2.2.2.2.2.2.2.2.2.2.2 t251 bt254.2.2.2.2.2.2.2.2.2.2.2.2 (bt254.2.2.2.2.2.2.2.2.2.2.2.2 != bt233.2.2.2.2.2.2.2.2.2.2.2.2) bt233.1 bt233.2.1 bt233.2.2.1 bt233.2.2.2.1 bt233.2.2.2.2.1 bt233.2.2.2.2.2.1 bt233.2.2.2.2.2.2.1 bt233.2.2.2.2.2.2.2.1 bt233.2.2.2.2.2.2.2.2.1 bt233.2.2.2.2.2.2.2.2.2.1 bt233.2.2.2.2.2.2.2.2.2.2.1 bt233.2.2.2.2.2.2.2.2.2.2.2.1 bt254.1 bt254.2.1 bt254.2.2.1 bt254.2.2.2.1 bt254.2.2.2.2.1 bt254.2.2.2.2.2.1 bt254.2.2.2.2.2.2.1 bt254.2.2.2.2.2.2.2.1 bt254.2.2.2.2.2.2.2.2.1 bt254.2.2.2.2.2.2.2.2.2.1 bt254.2.2.2.2.2.2.2.2.2.2.1 bt254.2.2.2.2.2.2.2.2.2.2.2.1) else (laws_FnExactDecodeSegment.j0 k l0 a1 a2 bt233.2.2.2.2.2.2.2.2.2.2.2.2 t251 bt254.2.2.2.2.2.2.2.2.2.2.2.2 true bt233.1 bt233.2.1 bt233.2.2.1 bt233.2.2.2.1 bt233.2.2.2.2.1 bt233.2.2.2.2.2.1 bt233.2.2.2.2.2.2.1 bt233.2.2.2.2.2.2.2.1 bt233.2.2.2.2.2.2.2.2.1 bt233.2.2.2.2.2.2.2.2.2.1 bt233.2.2.2.2.2.2.2.2.2.2.1 bt233.2.2.2.2.2.2.2.2.2.2.2.1 bt254.1 bt254.2.1 bt254.2.2.1 bt254.2.2.2.1 bt254.2.2.2.2.1 bt254.2.2.2.2.2.1 bt254.2.2.2.2.2.2.1 bt254.2.2.2.2.2.2.2.1 bt254.2.2.2.2.2.2.2.2.1 bt254.2.2.2.2.2.2.2.2.2.1 bt254.2.2.2.2.2.2.2.2.2.2.1 bt254.2.2.2.2.2.2.2.2.2.2.2.1)))))))) = some r := h
 clear h
 by_cases c4 : (l0.length : Int) > 1048576
 {
 rw [if_pos c4] at H
 have c4b0 : decide (1048576 < (l0.length : Int)) = true := decide_eq_true c4
 have c4b1 : decide (1048576 < l0.length) = true := decide_eq_true (by omega)
 clear c4
 obtain rfl := Option.some.inj H
 go_enter Try.func3, Try.ntmps3
 go_wp2
 go_ret
 exact ⟨by first | rfl | (simp [errW_none, errW_some] <;> rfl) | (simp [*, errW_none, errW_some] <;> rfl), wB⟩
 }
 {
 rw [if_neg c4] at H
 have c4b0 : decide (1048576 < (l0.length : Int)) = false := decide_eq_false c4
 have c4b1 : decide (1048576 < l0.length) = false := decide_eq_false (by omega)
 clear c4
 replace H := Option.bind_eq_some_iff.mp H
 obtain ⟨t230, A50, H⟩ := H
 have A5 := Aside0.mk A50
 clear A50
 replace H := Option.bind_eq_some_iff.mp H
 obtain ⟨⟨t233, t234, t235, t236, t237, t238, t239, t240, t241, t242, t243, t246, t249⟩, A60, H⟩ := H
 replace H : ((laws_toByteS.f k l0).bind fun t251 => ((impl_DecodeSegment.f k t251 a1 a2).bind fun bt254 => ((laws_eqSegment.f k bt254.1 bt254.2.1 bt254.2.2.1 bt254.2.2.2.1 bt254.2.2.2.2.1 bt254.2.2.2.2.2.1 bt254.2.2.2.2.2.2.1 bt254.2.2.2.2.2.2.2.1 bt254.2.2.2.2.2.2.2.2.1 bt254.2.2.2.2.2.2.2.2.2.1 bt254.2.2.2.2.2.2.2.2.2.2.1 bt254.2.2.2.2.2.2.2.2.2.2.2.1 t233 t234 t235 t236 t237 t238 t239 t240 t241 t242 t243 t246).bind fun t272 => (if t272 = true then (laws_FnExactDecodeSegment.j0 k l0 a1 a2 t249 t251 bt254.2.2.2.2.2.2.2.2.2.2.2.2 (bt254.2.2.2.2.2.2.2.2.2.2.2.2 != t249) t233 t234 t235 t236 t237 t238 t239 t240 t241 t242 t243 t246 bt254.1 bt254.2.1 bt254.2.2.1 bt254.2.2.2.1 bt254.2.2.2.2.1 bt254.2.2.2.2.2.1 bt254.2.2.2.2.2.2.1 bt254.2.2.2.2.2.2.2.1 bt254.2.2.2.2.2.2.2.2.1 bt254.2.2.2.2.2.2.2.2.2.1 bt254.2.2.2.2.2.2.2.2.2.2.1 bt254.2.2.2.2.2.2.2.2.2.2.2.1) else (laws_FnExactDecodeSegment.j0 k l0 a1 a2 t249 t251 bt254.2.2.2.2.2.2.2.2.2.2.2.2 true t233 t234 t235 t236 t237 t238 t239 t240 t241 t242 t243 t246 bt254.1 bt254.2.1 bt254.2.2.1 bt254.2.2.2.1 bt254.2.2.2.2.1 bt254.2.2.2.2.2.1 bt254.2.2.2.2.2.2.1 bt254.2.2.2.2.2.2.2.1 bt254.2.2.2.2.2.2.2.2.1 bt254.2.2.2.2.2.2.2.2.2.1 bt254.2.2.2.2.2.2.2.2.2.2.1 bt254.2.2.2.2.2.2.2.2.2.2.2.1))))) = some r := H
 have A6 := Aside0.mk A60
 clear A60
 replace H := Option.bind_eq_some_iff.mp H
 obtain ⟨t251, A70, H⟩ := H
 have A7 := Aside0.mk A70
 clear A70
 replace H := Option.bind_eq_some_iff.mp H
 obtain ⟨⟨t254, t255, t256, t257, t258, t259, t260, t261, t262, t263, t264, t267, t270⟩, A80, H⟩ := H
 replace H : ((laws_eqSegment.f k t254 t255 t256 t257 t258 t259 t260 t261 t262 t263 t264 t267 t233 t234 t235 t236 t237 t238 t239 t240 t241 t242 t243 t246).bind fun t272 => (if t272 = true then (laws_FnExactDecodeSegment.j0 k l0 a1 a2 t249 t251 t270 (t270 != t249) t233 t234 t235 t236 t237 t238 t239 t240 t241 t242 t243 t246 t254 t255 t256 t257 t258 t259 t260 t261 t262 t263 t264 t267) else (laws_FnExactDecodeSegment.j0 k l0 a1 a2 t249 t251 t270 true t233 t234 t235 t236 t237 t238 t239 t240 t241 t242 t243 t246 t254 t255 t256 t257 t258 t259 t260 t261 t262 t263 t264 t267))) = some r := H
 have A8 := Aside0.mk A80
 clear A80
 have HC9 := Aside0.mk H
 clear H
 go_enter Try.func3, Try.ntmps3
 go_upto_region 6 with (first | ((with_reducible refine gate_callee (f := 6) rfl ?_); refine goesL_ (some 22) rfl rfl Try.func6 (by kernel_rfl) rfl #[.slice A0 l0.length c0] rfl wT ?_; (with_reducible refine (laws_toByteS.calls k _ _ l0 t230 _ ?side1 ?side2 A5.out).mono ?_); (case side1 => repeat (first | exact HR0.out | (with_reducible refine Kd.C_alloc ?_ _) | (with_reducible refine Kd.C_drewN ?_ _) | (with_reducible refine Kd.C_drew ?_))); (case side2 => exact HC0.out); rintro e w1001 ⟨v231, rfl, ho0, hb⟩; refine ⟨_, rfl, ?_⟩; have n0_ := Aside0.mk (Kd.R_lower ho0 (below_size wB)); have n1_ := Aside0.mk (below_step wB hb); clear HB; have HO232 := n0_; have HB := n1_; clear n0_ n1_; (try clear hb); (try clear hb2); (try clear hk); (try clear hi); (try clear ho0); obtain ⟨Ao1002, co1002, eo1002⟩ := Kd.R_slice HO232.out; subst eo1002) | ((with_reducible refine gate_callee (f := 5) rfl ?_); refine goesL_ (some 25) rfl rfl Try.func5 (by kernel_rfl) rfl #[.slice Ao1002 t230.length co1002, .int .i64 a1, .int .i64 a2] rfl wT ?_; (with_reducible refine (spec_DecodeSegment.calls k _ _ t230 a1 a2 t233 t234 t235 t236 t237 t238 t239 t240 t241 t242 t243 t246 t249 _ ?side1 ?side2 A6.out).mono ?_); (case side1 => exact Ch HO232); (case side2 => exact (Kd.R_reads' HO232.out).2.1); rintro e w1003 ⟨v244, v247, rfl, ho0, ho1, hb⟩; refine ⟨_, rfl, ?_⟩; have n0_ := Aside0.mk (Kd.R_elder' (Rh HO232) (Kd.R_base ho1) hb); have n1_ := Aside0.mk (Kd.R_lower ho0 (below_size wB)); have n2_ := Aside0.mk (Kd.R_lower (Kd.R_new' ho1 (Kd.R_lt (Rh HO232))) (below_size wB)); have n3_ := Aside0.mk (below_step wB hb); clear HO232; clear HB; have HO232 := n0_; have HO245 := n1_; have HO248 := n2_; have HB := n3_; clear n0_ n1_ n2_ n3_; (try clear hb); (try clear hb2); (try clear hk); (try clear hi); (try clear ho0); (try clear ho1)) | ((with_reducible refine gate_dst (N := 7) rfl ?_); refine box_event ?hg (N := 7) ?hd (cs := #[.int .i64 0, .int .i64 0, .int .i64 0, .int .i64 0, .int .i64 0, .int .i64 0, .int .i64 0, .bool false, .int .i64 0, .bool false, .slice none 0 0, .slice none 0 0]) (t := 25) ?hr ?_; (case hd => rfl); (case hg => rfl); (case hr => first | (go_simp; done) | (go_simp; rfl)); intro gb250 hg w1004 hbox hb; have n0_ := Aside0.mk (Kd.R_below (Rh HO232) hb); have n1_ := Aside0.mk (Kd.R_below (Rh HO245) hb); have n2_ := Aside0.mk (Kd.R_below (Rh HO248) hb); have n3_ := Aside0.mk (below_step wB hb); have n4_ := Aside0.mk (hbox); have n5_ := Aside0.mk ((by rw [hg]; exact (below_size wB) : w.heap.size ≤ gb250)); have n6_ := Aside0.mk ((by rw [hg]; exact (below_size wB) : w.heap.size ≤ gb250)); clear HO232; clear HO245; clear HO248; clear HB; have HO232 := n0_; have HO245 := n1_; have HO248 := n2_; have HB := n3_; have BK250 := n4_; have GW250 := n5_; have GE250 := n6_; clear n0_ n1_ n2_ n3_ n4_ n5_ n6_; clear hb hbox hg; obtain ⟨⟨hcz1005_0, hcz1005_1, hcz1005_2, hcz1005_3, hcz1005_4, hcz1005_5, hcz1005_6, hcz1005_7, hcz1005_8, hcz1005_9, hcz1005_10, hcz1005_11⟩, hfz1005_0, hfz1005_1, hfz1005_2, hfz1005_3, hfz1005_4, hfz1005_5, hfz1005_6, hfz1005_7, hfz1005_8, hfz1005_9, hfz1005_10, hfz1005_11⟩ := cells12 BK250.out; obtain ⟨Ao1006, co1006, eo1006⟩ := Kd.R_slice HO245.out; subst eo1006; obtain ⟨Ao1007, co1007, eo1007⟩ := Kd.R_slice HO248.out; subst eo1007) | ((with_reducible refine gate_store (t := 25) (p := 7) rfl ?_); refine store_event (t := 25) (p := 7) (v := ?_) (w1 := (put12 w1004 gb250 (.int .i64 t233) (.int .i64 t234) (.int .i64 t235) (.int .i64 t236) (.int .i64 t237) (.int .i64 t238) (.int .i64 t239) (.bool t240) (.int .i64 t241) (.bool t242) (.slice Ao1006 t243.length co1006) (.slice Ao1007 t246.length co1007))) ?hg ?ho ?hn ?hr ?_; (case ho => rfl); (case hg => rfl); (case hn => rfl); (case hr => first | (go_simp; done) | (go_simp; rfl)); intro w1008 hw; have n0_ : Aside0 (Kd.R (Kd.int .u8) 5 w1008 w.heap.size (fun k_ => some k_ ≠ (.slice Ao1007 t246.length co1007 : Value).ownBlock) (.slice Ao1002 t230.length co1002) t230) := ⟨(by rw [hw]; exact (by (with_reducible repeat (first | apply Kd.R_alloc | apply Kd.R_drewN | apply Kd.R_drew)); exact Kd.R_mono (Kd.R_step (Kd.R_types HO232.out BK250.out (by decide)) (fun _ hk _ => far12 hk.2)) (fun _ hk => hk.1.2)))⟩; have n1_ : Aside0 (Kd.R k60 60 w1008 w.heap.size (fun _ => True) (.slice Ao1006 t243.length co1006) t243) := ⟨(by rw [hw]; exact (by (with_reducible repeat (first | apply Kd.R_alloc | apply Kd.R_drewN | apply Kd.R_drew)); exact Kd.R_mono (Kd.R_step (Kd.R_types HO245.out BK250.out (by decide)) (fun _ hk _ => far12 hk.2)) (fun _ hk => trivial)))⟩; have n2_ : Aside0 (Kd.R (Kd.int .u8) 5 w1008 w.heap.size (fun k_ => some k_ ≠ (.slice Ao1002 t230.length co1002 : Value).ownBlock) (.slice Ao1007 t246.length co1007) t246) := ⟨(by rw [hw]; exact (by (with_reducible repeat (first | apply Kd.R_alloc | apply Kd.R_drewN | apply Kd.R_drew)); exact Kd.R_mono (Kd.R_step (Kd.R_types HO248.out BK250.out (by decide)) (fun _ hk _ => far12 hk.2)) (fun _ hk => hk.1.2)))⟩; have n3_ : Aside0 (w1008.heap[gb250]? = some (.cells #[.int .i64 t233, .int .i64 t234, .int .i64 t235, .int .i64 t236, .int .i64 t237, .int .i64 t238, .int .i64 t239, .bool t240, .int .i64 t241, .bool t242, .slice Ao1006 t243.length co1006, .slice Ao1007 t246.length co1007] 25 (0, 0))) := ⟨(by rw [hw]; exact (by apply set12; (with_reducible repeat (first | refine blk_drewN ?_ _ | refine blk_drew ?_ | refine blk_alloc ?_ _)); exact BK250.out))⟩; have n4_ : Aside0 (Below w.heap.size w w1008) := ⟨(by rw [hw]; exact wB)⟩; clear hw; clear HO232; clear HO245; clear HO248; clear BK250; clear HB; have HO232 := n0_; have HO245 := n1_; have HO248 := n2_; have BK250 := n3_; have HB := n4_; clear n0_ n1_ n2_ n3_ n4_) | ((with_reducible refine gate_callee (f := 6) rfl ?_); refine goesL_ (some 29) rfl rfl Try.func6 (by kernel_rfl) rfl #[.slice A0 l0.length c0] rfl wT ?_; (with_reducible refine (laws_toByteS.calls k _ _ l0 t251 _ ?side1 ?side2 A7.out).mono ?_); (case side1 => exact Kd.C_below HR0.out wB); (case side2 => exact HC0.out); rintro e w1009 ⟨v252, rfl, ho0, hb⟩; refine ⟨_, rfl, ?_⟩; have n0_ := Aside0.mk (Kd.R_elder' (Rh HO232) (Kd.R_base ho0) hb); have n1_ := Aside0.mk (Kd.R_below (Rh HO245) hb); have n2_ := Aside0.mk (Kd.R_elder' (Rh HO248) (Kd.R_base ho0) hb); have n3_ := Aside0.mk (Kd.R_lower (Kd.R_new' (Kd.R_new' ho0 (Kd.R_lt (Rh HO232))) (Kd.R_lt (Rh HO248))) (below_size wB)); have n4_ := Aside0.mk (blk_below (Bh BK250) hb); have n5_ := Aside0.mk (below_step wB hb); clear HO232; clear HO245; clear HO248; clear BK250; clear HB; have HO232 := n0_; have HO245 := n1_; have HO248 := n2_; have HO253 := n3_; have BK250 := n4_; have HB := n5_; clear n0_ n1_ n2_ n3_ n4_ n5_; (try clear hb); (try clear hb2); (try clear hk); (try clear hi); (try clear ho0); obtain ⟨Ao1010, co1010, eo1010⟩ := Kd.R_slice HO253.out; subst eo1010) | ((with_reducible refine gate_callee (f := 7) rfl ?_); refine goesL_ (some 34) rfl rfl Try.func7 (by kernel_rfl) rfl #[.slice Ao1010 t251.length co1010, .int .i64 a1, .int .i64 a2] rfl wT ?_; (with_reducible refine (impl_DecodeSegment.calls k _ _ t251 a1 a2 t254 t255 t256 t257 t258 t259 t260 t261 t262 t263 t264 t267 t270 _ ?side1 ?side2 A8.out).mono ?_); (case side1 => exact Ch HO253); (case side2 => exact (Kd.R_reads' HO253.out).2.1); rintro e w1011 ⟨v265, v268, rfl, ho0, ho1, hb⟩; refine ⟨_, rfl, ?_⟩; have n0_ := Aside0.mk (Kd.R_elder' (Rh HO232) (Kd.R_base ho1) hb); have n1_ := Aside0.mk (Kd.R_elder' (Rh HO245) (Kd.R_base ho0) hb); have n2_ := Aside0.mk (Kd.R_elder' (Rh HO248) (Kd.R_base ho1) hb); have n3_ := Aside0.mk (Kd.R_elder' (Rh HO253) (Kd.R_base ho1) hb); have n4_ := Aside0.mk (Kd.R_lower (Kd.R_new' ho0 (Kd.R_lt (Rh HO245))) (below_size wB)); have n5_ := Aside0.mk (Kd.R_lower (Kd.R_new' (Kd.R_new' (Kd.R_new' ho1 (Kd.R_lt (Rh HO232))) (Kd.R_lt (Rh HO248))) (Kd.R_lt (Rh HO253))) (below_size wB)); have n6_ := Aside0.mk (blk_below (Bh BK250) hb); have n7_ := Aside0.mk (below_step wB hb); clear HO232; clear HO245; clear HO248; clear HO253; clear BK250; clear HB; have HO232 := n0_; have HO245 := n1_; have HO248 := n2_; have HO253 := n3_; have HO266 := n4_; have HO269 := n5_; have BK250 := n6_; have HB := n7_; clear n0_ n1_ n2_ n3_ n4_ n5_ n6_ n7_; (try clear hb); (try clear hb2); (try clear hk); (try clear hi); (try clear ho0); (try clear ho1)) | ((with_reducible refine gate_dst (N := 10) rfl ?_); refine box_event ?hg (N := 10) ?hd (cs := #[.int .i64 0, .int .i64 0, .int .i64 0, .int .i64 0, .int .i64 0, .int .i64 0, .int .i64 0, .bool false, .int .i64 0, .bool false, .slice none 0 0, .slice none 0 0]) (t := 25) ?hr ?_; (case hd => rfl); (case hg => rfl); (case hr => first | (go_simp; done) | (go_simp; rfl)); intro gb271 hg w1012 hbox hb; have n0_ := Aside0.mk (Kd.R_below (Rh HO232) hb); have n1_ := Aside0.mk (Kd.R_below (Rh HO245) hb); have n2_ := Aside0.mk (Kd.R_below (Rh HO248) hb); have n3_ := Aside0.mk (Kd.R_below (Rh HO253) hb); have n4_ := Aside0.mk (Kd.R_below (Rh HO266) hb); have n5_ := Aside0.mk (Kd.R_below (Rh HO269) hb); have n6_ := Aside0.mk (blk_below (Bh BK250) hb); have n7_ := Aside0.mk (below_step wB hb); have n8_ := Aside0.mk (hbox); have n9_ := Aside0.mk ((by rw [hg]; exact (below_size wB) : w.heap.size ≤ gb271)); have n10_ := Aside0.mk ((by rw [hg]; exact (below_size wB) : w.heap.size ≤ gb271)); have n11_ := Aside0.mk ((by rw [hg]; exact Nat.ne_of_lt (blk_lt (Bh BK250)) : gb250 ≠ gb271)); have n12_ := Aside0.mk ((by rw [hg]; exact Nat.ne_of_gt (blk_lt (Bh BK250)) : gb271 ≠ gb250)); clear HO232; clear HO245; clear HO248; clear HO253; clear HO266; clear HO269; clear BK250; clear HB; have HO232 := n0_; have HO245 := n1_; have HO248 := n2_; have HO253 := n3_; have HO266 := n4_; have HO269 := n5_; have BK250 := n6_; have HB := n7_; have BK271 := n8_; have GW271 := n9_; have GE271 := n10_; have NB250_271 := n11_; have NB271_250 := n12_; clear n0_ n1_ n2_ n3_ n4_ n5_ n6_ n7_ n8_ n9_ n10_ n11_ n12_; clear hb hbox hg; have hnb1013 := NB271_250.out; have hnc1013 := NB250_271.out; obtain ⟨⟨hcz1014_0, hcz1014_1, hcz1014_2, hcz1014_3, hcz1014_4, hcz1014_5, hcz1014_6, hcz1014_7, hcz1014_8, hcz1014_9, hcz1014_10, hcz1014_11⟩, hfz1014_0, hfz1014_1, hfz1014_2, hfz1014_3, hfz1014_4, hfz1014_5, hfz1014_6, hfz1014_7, hfz1014_8, hfz1014_9, hfz1014_10, hfz1014_11⟩ := cells12 BK271.out; obtain ⟨Ao1015, co1015, eo1015⟩ := Kd.R_slice HO266.out; subst eo1015; obtain ⟨Ao1016, co1016, eo1016⟩ := Kd.R_slice HO269.out; subst eo1016) | ((with_reducible refine gate_store (t := 25) (p := 10) rfl ?_); refine store_event (t := 25) (p := 10) (v := ?_) (w1 := (put12 w1012 gb271 (.int .i64 t254) (.int .i64 t255) (.int .i64 t256) (.int .i64 t257) (.int .i64 t258) (.int .i64 t259) (.int .i64 t260) (.bool t261) (.int .i64 t262) (.bool t263) (.slice Ao1015 t264.length co1015) (.slice Ao1016 t267.length co1016))) ?hg ?ho ?hn ?hr ?_; (case ho => rfl); (case hg => rfl); (case hn => rfl); (case hr => first | (go_simp; done) | (go_simp; rfl)); intro w1017 hw; have n0_ : Aside0 (Kd.R (Kd.int .u8) 5 w1017 w.heap.size (fun k_ => some k_ ≠ (.slice Ao1007 t246.length co1007 : Value).ownBlock ∧ some k_ ≠ (.slice Ao1010 t251.length co1010 : Value).ownBlock ∧ some k_ ≠ (.slice Ao1016 t267.length co1016 : Value).ownBlock) (.slice Ao1002 t230.length co1002) t230) := ⟨(by rw [hw]; exact (by (with_reducible repeat (first | apply Kd.R_alloc | apply Kd.R_drewN | apply Kd.R_drew)); exact Kd.R_mono (Kd.R_step (Kd.R_types HO232.out BK271.out (by decide)) (fun _ hk _ => far12 hk.2)) (fun _ hk => ⟨hk.1.1.1, ⟨hk.1.1.2, hk.1.2⟩⟩)))⟩; have n1_ : Aside0 (Kd.R k60 60 w1017 w.heap.size (fun k_ => some k_ ≠ (.slice Ao1015 t264.length co1015 : Value).ownBlock) (.slice Ao1006 t243.length co1006) t243) := ⟨(by rw [hw]; exact (by (with_reducible repeat (first | apply Kd.R_alloc | apply Kd.R_drewN | apply Kd.R_drew)); exact Kd.R_mono (Kd.R_step (Kd.R_types HO245.out BK271.out (by decide)) (fun _ hk _ => far12 hk.2)) (fun _ hk => hk.1.2)))⟩; have n2_ : Aside0 (Kd.R (Kd.int .u8) 5 w1017 w.heap.size (fun k_ => some k_ ≠ (.slice Ao1002 t230.length co1002 : Value).ownBlock ∧ some k_ ≠ (.slice Ao1010 t251.length co1010 : Value).ownBlock ∧ some k_ ≠ (.slice Ao1016 t267.length co1016 : Value).ownBlock) (.slice Ao1007 t246.length co1007) t246) := ⟨(by rw [hw]; exact (by (with_reducible repeat (first | apply Kd.R_alloc | apply Kd.R_drewN | apply Kd.R_drew)); exact Kd.R_mono (Kd.R_step (Kd.R_types HO248.out BK271.out (by decide)) (fun _ hk _ => far12 hk.2)) (fun _ hk => ⟨hk.1.1.1, ⟨hk.1.1.2, hk.1.2⟩⟩)))⟩; have n3_ : Aside0 (Kd.R (Kd.int .u8) 5 w1017 w.heap.size (fun k_ => some k_ ≠ (.slice Ao1002 t230.length co1002 : Value).ownBlock ∧ some k_ ≠ (.slice Ao1007 t246.length co1007 : Value).ownBlock ∧ some k_ ≠ (.slice Ao1016 t267.length co1016 : Value).ownBlock) (.slice Ao1010 t251.length co1010) t251) := ⟨(by rw [hw]; exact (by (with_reducible repeat (first | apply Kd.R_alloc | apply Kd.R_drewN | apply Kd.R_drew)); exact Kd.R_mono (Kd.R_step (Kd.R_types HO253.out BK271.out (by decide)) (fun _ hk _ => far12 hk.2)) (fun _ hk => ⟨hk.1.1.1.2, ⟨hk.1.1.2, hk.1.2⟩⟩)))⟩; have n4_ : Aside0 (Kd.R k60 60 w1017 w.heap.size (fun k_ => some k_ ≠ (.slice Ao1006 t243.length co1006 : Value).ownBlock) (.slice Ao1015 t264.length co1015) t264) := ⟨(by rw [hw]; exact (by (with_reducible repeat (first | apply Kd.R_alloc | apply Kd.R_drewN | apply Kd.R_drew)); exact Kd.R_mono (Kd.R_step (Kd.R_types HO266.out BK271.out (by decide)) (fun _ hk _ => far12 hk.2)) (fun _ hk => hk.1.2)))⟩; have n5_ : Aside0 (Kd.R (Kd.int .u8) 5 w1017 w.heap.size (fun k_ => some k_ ≠ (.slice Ao1002 t230.length co1002 : Value).ownBlock ∧ some k_ ≠ (.slice Ao1007 t246.length co1007 : Value).ownBlock ∧ some k_ ≠ (.slice Ao1010 t251.length co1010 : Value).ownBlock) (.slice Ao1016 t267.length co1016) t267) := ⟨(by rw [hw]; exact (by (with_reducible repeat (first | apply Kd.R_alloc | apply Kd.R_drewN | apply Kd.R_drew)); exact Kd.R_mono (Kd.R_step (Kd.R_types HO269.out BK271.out (by decide)) (fun _ hk _ => far12 hk.2)) (fun _ hk => ⟨hk.1.1.1.2, ⟨hk.1.1.2, hk.1.2⟩⟩)))⟩; have n6_ : Aside0 (w1017.heap[gb250]? = some (.cells #[.int .i64 t233, .int .i64 t234, .int .i64 t235, .int .i64 t236, .int .i64 t237, .int .i64 t238, .int .i64 t239, .bool t240, .int .i64 t241, .bool t242, .slice Ao1006 t243.length co1006, .slice Ao1007 t246.length co1007] 25 (0, 0))) := ⟨(by rw [hw]; exact (by refine (far12 NB250_271.out).trans ?_; (with_reducible repeat (first | refine blk_drewN ?_ _ | refine blk_drew ?_ | refine blk_alloc ?_ _)); exact BK250.out))⟩; have n7_ : Aside0 (w1017.heap[gb271]? = some (.cells #[.int .i64 t254, .int .i64 t255, .int .i64 t256, .int .i64 t257, .int .i64 t258, .int .i64 t259, .int .i64 t260, .bool t261, .int .i64 t262, .bool t263, .slice Ao1015 t264.length co1015, .slice Ao1016 t267.length co1016] 25 (0, 0))) := ⟨(by rw [hw]; exact (by apply set12; (with_reducible repeat (first | refine blk_drewN ?_ _ | refine blk_drew ?_ | refine blk_alloc ?_ _)); exact BK271.out))⟩; have n8_ : Aside0 (Below w.heap.size w w1017) := ⟨(by rw [hw]; exact wB)⟩; clear hw; clear HO232; clear HO245; clear HO248; clear HO253; clear HO266; clear HO269; clear BK250; clear BK271; clear HB; have HO232 := n0_; have HO245 := n1_; have HO248 := n2_; have HO253 := n3_; have HO266 := n4_; have HO269 := n5_; have BK250 := n6_; have BK271 := n7_; have HB := n8_; clear n0_ n1_ n2_ n3_ n4_ n5_ n6_ n7_ n8_))
 (try simp only [Act.put, List.setIfInBounds_toArray, List.set_cons_zero, List.set_cons_succ])
 go_cut [45] (fun v45 wc => ∃ (kq : Nat) (x45_8 : Bool), v45 = .bool x45_8 ∧ Aside0 (laws_FnExactDecodeSegment.j0 kq l0 a1 a2 t249 t251 t270 x45_8 t233 t234 t235 t236 t237 t238 t239 t240 t241 t242 t243 t246 t254 t255 t256 t257 t258 t259 t260 t261 t262 t263 t264 t267 = some r) ∧ Aside0 (kq ≤ k) ∧ Aside0 (Kd.R (Kd.int .u8) 5 wc w.heap.size (fun k_ => some k_ ≠ ((.slice Ao1007 t246.length co1007) : Value).ownBlock ∧ some k_ ≠ ((.slice Ao1016 t267.length co1016) : Value).ownBlock) (.slice Ao1010 t251.length co1010) t251) ∧ Aside0 (Kd.R k60 60 wc w.heap.size (fun k_ => some k_ ≠ ((.slice Ao1015 t264.length co1015) : Value).ownBlock) (.slice Ao1006 t243.length co1006) t243) ∧ Aside0 (Kd.R (Kd.int .u8) 5 wc w.heap.size (fun k_ => some k_ ≠ ((.slice Ao1010 t251.length co1010) : Value).ownBlock ∧ some k_ ≠ ((.slice Ao1016 t267.length co1016) : Value).ownBlock) (.slice Ao1007 t246.length co1007) t246) ∧ Aside0 (Kd.R k60 60 wc w.heap.size (fun k_ => some k_ ≠ ((.slice Ao1006 t243.length co1006) : Value).ownBlock) (.slice Ao1015 t264.length co1015) t264) ∧ Aside0 (Kd.R (Kd.int .u8) 5 wc w.heap.size (fun k_ => some k_ ≠ ((.slice Ao1010 t251.length co1010) : Value).ownBlock ∧ some k_ ≠ ((.slice Ao1007 t246.length co1007) : Value).ownBlock) (.slice Ao1016 t267.length co1016) t267) ∧ Aside0 (wc.heap[gb250]? = some (.cells #[.int .i64 t233, .int .i64 t234, .int .i64 t235, .int .i64 t236, .int .i64 t237, .int .i64 t238, .int .i64 t239, .bool t240, .int .i64 t241, .bool t242, (.slice Ao1006 t243.length co1006), (.slice Ao1007 t246.length co1007)] 25 (0, 0))) ∧ Aside0 (wc.heap[gb271]? = some (.cells #[.int .i64 t254, .int .i64 t255, .int .i64 t256, .int .i64 t257, .int .i64 t258, .int .i64 t259, .int .i64 t260, .bool t261, .int .i64 t262, .bool t263, (.slice Ao1015 t264.length co1015), (.slice Ao1016 t267.length co1016)] 25 (0, 0))) ∧ Aside0 (Below w.heap.size w wc))
 case first => (
 have H := HC9.out
 clear HC9
 replace H := Option.bind_eq_some_iff.mp H
 obtain ⟨t272, A10180, H⟩ := H
 have A1018 := Aside0.mk A10180
 clear A10180
 by_cases c1019 : t272 = true
 subst c1019
 have H1 : (laws_FnExactDecodeSegment.j0 k l0 a1 a2 t249 t251 t270 (t270 != t249) t233 t234 t235 t236 t237 t238 t239 t240 t241 t242 t243 t246 t254 t255 t256 t257 t258 t259 t260 t261 t262 t263 t264 t267) = some r := by rw [if_pos rfl] at H; exact H
 clear H
 have H := H1
 clear H1
 have H' := Aside0.mk H
 clear H
 rotate_left
 replace c1019 := Bool.eq_false_iff.mpr c1019
 subst c1019
 have H1 : (laws_FnExactDecodeSegment.j0 k l0 a1 a2 t249 t251 t270 true t233 t234 t235 t236 t237 t238 t239 t240 t241 t242 t243 t246 t254 t255 t256 t257 t258 t259 t260 t261 t262 t263 t264 t267) = some r := by rw [if_neg (show ¬ (false = true) by decide)] at H; exact H
 clear H
 have H := H1
 clear H1
 have H' := Aside0.mk H
 clear H
 rotate_left
 all_goals (
 have hnb2001 := NB271_250.out
 have hnc2001 := NB250_271.out
 obtain ⟨⟨hcz2002_0, hcz2002_1, hcz2002_2, hcz2002_3, hcz2002_4, hcz2002_5, hcz2002_6, hcz2002_7, hcz2002_8, hcz2002_9, hcz2002_10, hcz2002_11⟩, hfz2002_0, hfz2002_1, hfz2002_2, hfz2002_3, hfz2002_4, hfz2002_5, hfz2002_6, hfz2002_7, hfz2002_8, hfz2002_9, hfz2002_10, hfz2002_11⟩ := cells12 BK271.out
 obtain ⟨⟨hcz2003_0, hcz2003_1, hcz2003_2, hcz2003_3, hcz2003_4, hcz2003_5, hcz2003_6, hcz2003_7, hcz2003_8, hcz2003_9, hcz2003_10, hcz2003_11⟩, hfz2003_0, hfz2003_1, hfz2003_2, hfz2003_3, hfz2003_4, hfz2003_5, hfz2003_6, hfz2003_7, hfz2003_8, hfz2003_9, hfz2003_10, hfz2003_11⟩ := cells12 BK250.out
 go_wp2_with (first | ((with_reducible refine gate_callee (f := 8) rfl ?_); refine goesL_ (some 39) rfl rfl Try.func8 (by kernel_rfl) rfl #[.agg #[.int .i64 t254, .int .i64 t255, .int .i64 t256, .int .i64 t257, .int .i64 t258, .int .i64 t259, .int .i64 t260, .bool t261, .int .i64 t262, .bool t263, .slice Ao1015 t264.length co1015, .slice Ao1016 t267.length co1016], .agg #[.int .i64 t233, .int .i64 t234, .int .i64 t235, .int .i64 t236, .int .i64 t237, .int .i64 t238, .int .i64 t239, .bool t240, .int .i64 t241, .bool t242, .slice Ao1006 t243.length co1006, .slice Ao1007 t246.length co1007]] rfl wT ?_; (with_reducible refine (laws_eqSegment.calls k t254 t255 t256 t257 t258 t259 t260 t261 t262 t263 _ _ t264 _ _ t267 t233 t234 t235 t236 t237 t238 t239 t240 t241 t242 _ _ t243 _ _ t246 _ _ ?side1 ?side2 ?side3 ?side4 ?side5 ?side6 ?side7 ?side8 A1018.out).mono ?_); (case side1 => exact Ch HO266); (case side2 => exact (Kd.R_reads' HO266.out).2.1); (case side3 => exact Ch HO269); (case side4 => exact (Kd.R_reads' HO269.out).2.1); (case side5 => exact Ch HO245); (case side6 => exact (Kd.R_reads' HO245.out).2.1); (case side7 => exact Ch HO248); (case side8 => exact (Kd.R_reads' HO248.out).2.1); rintro e w2004 ⟨rfl, hb⟩; refine ⟨_, rfl, ?_⟩; have n0_ := Aside0.mk (Kd.R_below (Rh HO232) hb); have n1_ := Aside0.mk (Kd.R_below (Rh HO245) hb); have n2_ := Aside0.mk (Kd.R_below (Rh HO248) hb); have n3_ := Aside0.mk (Kd.R_below (Rh HO253) hb); have n4_ := Aside0.mk (Kd.R_below (Rh HO266) hb); have n5_ := Aside0.mk (Kd.R_below (Rh HO269) hb); have n6_ := Aside0.mk (blk_below (Bh BK250) hb); have n7_ := Aside0.mk (blk_below (Bh BK271) hb); have n8_ := Aside0.mk (below_step wB hb); clear HO232; clear HO245; clear HO248; clear HO253; clear HO266; clear HO269; clear BK250; clear BK271; clear HB; have HO232 := n0_; have HO245 := n1_; have HO248 := n2_; have HO253 := n3_; have HO266 := n4_; have HO269 := n5_; have BK250 := n6_; have BK271 := n7_; have HB := n8_; clear n0_ n1_ n2_ n3_ n4_ n5_ n6_ n7_ n8_; (try clear hb); (try clear hb2); (try clear hk); (try clear hi)))
 go_meet
 )
 {
 case rel => exact ⟨_, ((t270 != t249)), (by first | rfl | (simp; done) | (simp [*]; done)), H', ⟨by first | omega | exact Nat.le_refl _⟩, ⟨Kd.R_mono (Rh HO253) (fun _ hk => ⟨hk.2.1, hk.2.2⟩)⟩, ⟨Rh HO245⟩, ⟨Kd.R_mono (Rh HO248) (fun _ hk => ⟨hk.2.1, hk.2.2⟩)⟩, ⟨Rh HO266⟩, ⟨Kd.R_mono (Rh HO269) (fun _ hk => ⟨hk.2.2, hk.2.1⟩)⟩, ⟨Bh BK250⟩, ⟨Bh BK271⟩, ⟨wB⟩⟩
 }
 {
 case rel => exact ⟨_, (true), (by first | rfl | (simp; done) | (simp [*]; done)), H', ⟨by first | omega | exact Nat.le_refl _⟩, ⟨Kd.R_mono (Rh HO253) (fun _ hk => ⟨hk.2.1, hk.2.2⟩)⟩, ⟨Rh HO245⟩, ⟨Kd.R_mono (Rh HO248) (fun _ hk => ⟨hk.2.1, hk.2.2⟩)⟩, ⟨Rh HO266⟩, ⟨Kd.R_mono (Rh HO269) (fun _ hk => ⟨hk.2.2, hk.2.1⟩)⟩, ⟨Bh BK250⟩, ⟨Bh BK271⟩, ⟨wB⟩⟩
 }
 )
 case rest => (
 clear HC9
 try clear c0
 try clear c4
 try clear c4b0
 try clear c4b1
 try clear c1019
 try clear hcz1005_0 hcz1005_1 hcz1005_10 hcz1005_11 hcz1005_2 hcz1005_3 hcz1005_4 hcz1005_5 hcz1005_6 hcz1005_7 hcz1005_8 hcz1005_9 hfz1005_0 hfz1005_1 hfz1005_10 hfz1005_11 hfz1005_2 hfz1005_3 hfz1005_4 hfz1005_5 hfz1005_6 hfz1005_7 hfz1005_8 hfz1005_9
 try clear hcz1014_0 hcz1014_1 hcz1014_10 hcz1014_11 hcz1014_2 hcz1014_3 hcz1014_4 hcz1014_5 hcz1014_6 hcz1014_7 hcz1014_8 hcz1014_9 hfz1014_0 hfz1014_1 hfz1014_10 hfz1014_11 hfz1014_2 hfz1014_3 hfz1014_4 hfz1014_5 hfz1014_6 hfz1014_7 hfz1014_8 hfz1014_9
 try clear hcz2002_0 hcz2002_1 hcz2002_10 hcz2002_11 hcz2002_2 hcz2002_3 hcz2002_4 hcz2002_5 hcz2002_6 hcz2002_7 hcz2002_8 hcz2002_9 hfz2002_0 hfz2002_1 hfz2002_10 hfz2002_11 hfz2002_2 hfz2002_3 hfz2002_4 hfz2002_5 hfz2002_6 hfz2002_7 hfz2002_8 hfz2002_9
 try clear hcz2003_0 hcz2003_1 hcz2003_10 hcz2003_11 hcz2003_2 hcz2003_3 hcz2003_4 hcz2003_5 hcz2003_6 hcz2003_7 hcz2003_8 hcz2003_9 hfz2003_0 hfz2003_1 hfz2003_10 hfz2003_11 hfz2003_2 hfz2003_3 hfz2003_4 hfz2003_5 hfz2003_6 hfz2003_7 hfz2003_8 hfz2003_9
 obtain ⟨kq, x45_8, rfl, HA, HJ8, HO_9, HO_251010, HO_251011, HO_272010, HO_272011, BK250, BK271, HB⟩ := hcut
 cases kq with
 | zero => exact absurd HA.out (by simp [laws_FnExactDecodeSegment.j0])
 | succ kj8 => {
 have H := HA.out
 clear HA
 simp only [laws_FnExactDecodeSegment.j0] at H
 by_cases c1020 : x45_8 = true
 {
 subst c1020
 have H1 : (some false) = some r := by rw [if_pos rfl] at H; exact H
 clear H
 have H := H1
 clear H1
 obtain rfl := Option.some.inj H
 go_wp2
 go_ret
 exact ⟨by first | rfl | (simp [errW_none, errW_some] <;> rfl) | (simp [*, errW_none, errW_some] <;> rfl), wB⟩
 }
 {
 replace c1020 := Bool.eq_false_iff.mpr c1020
 subst c1020
 have H1 : ((laws_toByteS.f kj8 l0).bind fun t273 => ((laws_eqByteS.f kj8 t251 t273).bind fun t276 => (if t276 = true then ((laws_markByteS.f kj8 t251 1).bind fun bt277 => (if bt277.1 < 0 then (laws_FnExactDecodeSegment.j1 kj8 l0 a1 a2 t249 true t233 t234 t235 t236 t237 t238 t239 t240 t241 t242 t243 t246 t254 t255 t256 t257 t258 t259 t260 t261 t262 t263 t264 t267) else ((laws_eqSegment.f kj8 t254 t255 t256 t257 t258 t259 t260 t261 t262 t263 t264 t267 t233 t234 t235 t236 t237 t238 t239 t240 t241 t242 t243 t246).bind fun t279 => (if t279 = true then (laws_FnExactDecodeSegment.j1 kj8 l0 a1 a2 t249 (t270 != t249) t233 t234 t235 t236 t237 t238 t239 t240 t241 t242 t243 t246 t254 t255 t256 t257 t258 t259 t260 t261 t262 t263 t264 t267) else (laws_FnExactDecodeSegment.j1 kj8 l0 a1 a2 t249 true t233 t234 t235 t236 t237 t238 t239 t240 t241 t242 t243 t246 t254 t255 t256 t257 t258 t259 t260 t261 t262 t263 t264 t267))))) else (some false)))) = some r := by rw [if_neg (show ¬ (false = true) by decide)] at H; exact H
 clear H
 have H := H1
 clear H1
 replace H := Option.bind_eq_some_iff.mp H
 obtain ⟨t273, A10210, H⟩ := H
 have A1021 := Aside0.mk A10210
 clear A10210
 replace H := Option.bind_eq_some_iff.mp H
 obtain ⟨t276, A10220, H⟩ := H
 have A1022 := Aside0.mk A10220
 clear A10220
 by_cases c1023 : t276 = true
 {
 subst c1023
 have H1 : ((laws_markByteS.f kj8 t251 1).bind fun bt277 => (if bt277.1 < 0 then (laws_FnExactDecodeSegment.j1 kj8 l0 a1 a2 t249 true t233 t234 t235 t236 t237 t238 t239 t240 t241 t242 t243 t246 t254 t255 t256 t257 t258 t259 t260 t261 t262 t263 t264 t267) else ((laws_eqSegment.f kj8 t254 t255 t256 t257 t258 t259 t260 t261 t262 t263 t264 t267 t233 t234 t235 t236 t237 t238 t239 t240 t241 t242 t243 t246).bind fun t279 => (if t279 = true then (laws_FnExactDecodeSegment.j1 kj8 l0 a1 a2 t249 (t270 != t249) t233 t234 t235 t236 t237 t238 t239 t240 t241 t242 t243 t246 t254 t255 t256 t257 t258 t259 t260 t261 t262 t263 t264 t267) else (laws_FnExactDecodeSegment.j1 kj8 l0 a1 a2 t249 true t233 t234 t235 t236 t237 t238 t239 t240 t241 t242 t243 t246 t254 t255 t256 t257 t258 t259 t260 t261 t262 t263 t264 t267))))) = some r := by rw [if_pos rfl] at H; exact H
 clear H
 have H := H1
 clear H1
 replace H := Option.bind_eq_some_iff.mp H
 obtain ⟨⟨t277, t278⟩, A10240, H⟩ := H
 replace H : (if t277 < 0 then (laws_FnExactDecodeSegment.j1 kj8 l0 a1 a2 t249 true t233 t234 t235 t236 t237 t238 t239 t240 t241 t242 t243 t246 t254 t255 t256 t257 t258 t259 t260 t261 t262 t263 t264 t267) else ((laws_eqSegment.f kj8 t254 t255 t256 t257 t258 t259 t260 t261 t262 t263 t264 t267 t233 t234 t235 t236 t237 t238 t239 t240 t241 t242 t243 t246).bind fun t279 => (if t279 = true then (laws_FnExactDecodeSegment.j1 kj8 l0 a1 a2 t249 (t270 != t249) t233 t234 t235 t236 t237 t238 t239 t240 t241 t242 t243 t246 t254 t255 t256 t257 t258 t259 t260 t261 t262 t263 t264 t267) else (laws_FnExactDecodeSegment.j1 kj8 l0 a1 a2 t249 true t233 t234 t235 t236 t237 t238 t239 t240 t241 t242 t243 t246 t254 t255 t256 t257 t258 t259 t260 t261 t262 t263 t264 t267)))) = some r := H
 have A1024 := Aside0.mk A10240
 clear A10240
 have HC1025 := Aside0.mk H
 clear H
 go_upto_region 12 with (first | ((with_reducible refine gate_callee (f := 6) rfl ?_); refine goesL_ (some 48) rfl rfl Try.func6 (by kernel_rfl) rfl #[.slice A0 l0.length c0] rfl wT ?_; (with_reducible refine (laws_toByteS.calls kj8 _ _ l0 t273 _ ?side1 ?side2 A1021.out).mono ?_); (case side1 => exact Kd.C_below HR0.out wB); (case side2 => exact HC0.out); rintro e w2001 ⟨v274, rfl, ho0, hb⟩; refine ⟨_, rfl, ?_⟩; have n0_ := Aside0.mk (Kd.R_elder' (Rh HO_9) (Kd.R_base ho0) hb); have n1_ := Aside0.mk (Kd.R_below (Rh HO_251010) hb); have n2_ := Aside0.mk (Kd.R_elder' (Rh HO_251011) (Kd.R_base ho0) hb); have n3_ := Aside0.mk (Kd.R_below (Rh HO_272010) hb); have n4_ := Aside0.mk (Kd.R_elder' (Rh HO_272011) (Kd.R_base ho0) hb); have n5_ := Aside0.mk (Kd.R_lower (Kd.R_new' (Kd.R_new' (Kd.R_new' ho0 (Kd.R_lt (Rh HO_9))) (Kd.R_lt (Rh HO_251011))) (Kd.R_lt (Rh HO_272011))) (below_size wB)); have n6_ := Aside0.mk (blk_below (Bh BK250) hb); have n7_ := Aside0.mk (blk_below (Bh BK271) hb); have n8_ := Aside0.mk (below_step wB hb); clear HO_9; clear HO_251010; clear HO_251011; clear HO_272010; clear HO_272011; clear BK250; clear BK271; clear HB; have HO_9 := n0_; have HO_251010 := n1_; have HO_251011 := n2_; have HO_272010 := n3_; have HO_272011 := n4_; have HO275 := n5_; have BK250 := n6_; have BK271 := n7_; have HB := n8_; clear n0_ n1_ n2_ n3_ n4_ n5_ n6_ n7_ n8_; (try clear hb); (try clear hb2); (try clear hk); (try clear hi); (try clear ho0); obtain ⟨Ao2002, co2002, eo2002⟩ := Kd.R_slice HO275.out; subst eo2002) | ((with_reducible refine gate_callee (f := 9) rfl ?_); refine goesL_ (some 49) rfl rfl Try.func9 (by kernel_rfl) rfl #[.slice Ao1010 t251.length co1010, .slice Ao2002 t273.length co2002] rfl wT ?_; (with_reducible refine (laws_eqByteS.calls kj8 _ _ t251 _ _ t273 true _ ?side1 ?side2 ?side3 ?side4 A1022.out).mono ?_); (case side1 => exact Ch HO_9); (case side2 => exact (Kd.R_reads' HO_9.out).2.1); (case side3 => exact Ch HO275); (case side4 => exact (Kd.R_reads' HO275.out).2.1); rintro e w' ⟨rfl, ⟨nd, rfl⟩⟩; refine ⟨_, rfl, ?_⟩) | ((with_reducible refine gate_callee (f := 10) rfl ?_); refine goesL_ (some 53) rfl rfl Try.func10 (by kernel_rfl) rfl #[.slice Ao1010 t251.length co1010, .int .i64 1] rfl wT ?_; (with_reducible refine (laws_markByteS.calls kj8 (fun k_ => some k_ = (.slice Ao1010 t251.length co1010 : Value).ownBlock) (.slice Ao1010 t251.length co1010) t251 1 t277 t278 w _ ?side1 ?side2 A1024.out).mono ?_); (case side1 => repeat (first | (with_reducible first | exact HB.out | apply below_alloc | apply pw_below_drewN | apply below_drew1 | refine below_set ?_ GE250.out | refine below_set ?_ GE271.out) | exact HB.out)); (case side2 => exact Kd.R_tight rfl HO_9.out); rintro e w2003 ⟨rfl, hy0, hb, hkp⟩; refine ⟨_, rfl, ?_⟩; have n0_ := Aside0.mk (Kd.R_reok rfl hy0 (fun k_ e_ => HO_9.out.1 k_ e_)); have n1_ := Aside0.mk (Kd.R_mono (ok' := fun k_ => some k_ ≠ (.slice Ao1015 t264.length co1015 : Value).ownBlock) (Kd.R_keptB ((Kd.R_apart' HO_251010.out (Kd.R_typed HO_9.out) (by decide))) hkp (fun k_ hk_ hs_ => (hk_.2) hs_)) (fun k_ hk_ => hk_.1.1)); have n2_ := Aside0.mk (Kd.R_mono (ok' := fun k_ => some k_ ≠ (.slice Ao1010 t251.length co1010 : Value).ownBlock ∧ some k_ ≠ (.slice Ao1016 t267.length co1016 : Value).ownBlock ∧ some k_ ≠ (.slice Ao2002 t273.length co2002 : Value).ownBlock) (Kd.R_keptB (HO_251011.out) hkp (fun k_ hk_ hs_ => (hk_.1.1) hs_)) (fun k_ hk_ => ⟨hk_.1.1.1, hk_.1.1.2, hk_.1.2⟩)); have n3_ := Aside0.mk (Kd.R_mono (ok' := fun k_ => some k_ ≠ (.slice Ao1006 t243.length co1006 : Value).ownBlock) (Kd.R_keptB ((Kd.R_apart' HO_272010.out (Kd.R_typed HO_9.out) (by decide))) hkp (fun k_ hk_ hs_ => (hk_.2) hs_)) (fun k_ hk_ => hk_.1.1)); have n4_ := Aside0.mk (Kd.R_mono (ok' := fun k_ => some k_ ≠ (.slice Ao1010 t251.length co1010 : Value).ownBlock ∧ some k_ ≠ (.slice Ao1007 t246.length co1007 : Value).ownBlock ∧ some k_ ≠ (.slice Ao2002 t273.length co2002 : Value).ownBlock) (Kd.R_keptB (HO_272011.out) hkp (fun k_ hk_ hs_ => (hk_.1.1) hs_)) (fun k_ hk_ => ⟨hk_.1.1.1, hk_.1.1.2, hk_.1.2⟩)); have n5_ := Aside0.mk (blk_kept (Bh BK250) hkp (fun hs_ => (fun e_ => (Kd.R_ne HO_9.out BK250.out (by decide)) e_) hs_)); have n6_ := Aside0.mk (blk_kept (Bh BK271) hkp (fun hs_ => (fun e_ => (Kd.R_ne HO_9.out BK271.out (by decide)) e_) hs_)); have n7_ := Aside0.mk (Kd.R_mono (ok' := fun k_ => some k_ ≠ (.slice Ao1010 t251.length co1010 : Value).ownBlock ∧ some k_ ≠ (.slice Ao1007 t246.length co1007 : Value).ownBlock ∧ some k_ ≠ (.slice Ao1016 t267.length co1016 : Value).ownBlock) (Kd.R_keptB (HO275.out) hkp (fun k_ hk_ hs_ => (hk_.1.1.2) hs_)) (fun k_ hk_ => ⟨hk_.1.1.1.2, hk_.1.1.2, hk_.1.2⟩)); have n8_ := Aside0.mk (hb); clear HO_9; clear HO_251010; clear HO_251011; clear HO_272010; clear HO_272011; clear BK250; clear BK271; clear HO275; clear HB; have HO_9 := n0_; have HO_251010 := n1_; have HO_251011 := n2_; have HO_272010 := n3_; have HO_272011 := n4_; have BK250 := n5_; have BK271 := n6_; have HO275 := n7_; have HB := n8_; clear n0_ n1_ n2_ n3_ n4_ n5_ n6_ n7_ n8_; (try clear hb); (try clear hkp); (try clear hy0)))
 (try simp only [Act.put, List.setIfInBounds_toArray, List.set_cons_zero, List.set_cons_succ])
 go_cut [66] (fun v66 wc => ∃ (kq : Nat) (x66_1024 : Bool), v66 = .bool x66_1024 ∧ Aside0 (laws_FnExactDecodeSegment.j1 kq l0 a1 a2 t249 x66_1024 t233 t234 t235 t236 t237 t238 t239 t240 t241 t242 t243 t246 t254 t255 t256 t257 t258 t259 t260 t261 t262 t263 t264 t267 = some r) ∧ Aside0 (kq ≤ kj8) ∧ Aside0 (Kd.R k60 60 wc w.heap.size (fun k_ => some k_ ≠ ((.slice Ao1015 t264.length co1015) : Value).ownBlock) (.slice Ao1006 t243.length co1006) t243) ∧ Aside0 (Kd.R (Kd.int .u8) 5 wc w.heap.size (fun k_ => some k_ ≠ ((.slice Ao1016 t267.length co1016) : Value).ownBlock) (.slice Ao1007 t246.length co1007) t246) ∧ Aside0 (Kd.R k60 60 wc w.heap.size (fun k_ => some k_ ≠ ((.slice Ao1006 t243.length co1006) : Value).ownBlock) (.slice Ao1015 t264.length co1015) t264) ∧ Aside0 (Kd.R (Kd.int .u8) 5 wc w.heap.size (fun k_ => some k_ ≠ ((.slice Ao1007 t246.length co1007) : Value).ownBlock) (.slice Ao1016 t267.length co1016) t267) ∧ Aside0 (wc.heap[gb250]? = some (.cells #[.int .i64 t233, .int .i64 t234, .int .i64 t235, .int .i64 t236, .int .i64 t237, .int .i64 t238, .int .i64 t239, .bool t240, .int .i64 t241, .bool t242, (.slice Ao1006 t243.length co1006), (.slice Ao1007 t246.length co1007)] 25 (0, 0))) ∧ Aside0 (wc.heap[gb271]? = some (.cells #[.int .i64 t254, .int .i64 t255, .int .i64 t256, .int .i64 t257, .int .i64 t258, .int .i64 t259, .int .i64 t260, .bool t261, .int .i64 t262, .bool t263, (.slice Ao1015 t264.length co1015), (.slice Ao1016 t267.length co1016)] 25 (0, 0))) ∧ Aside0 (Below w.heap.size w wc))
 case first => (
 have H := HC1025.out
 clear HC1025
 by_cases c2004 : t277 < 0
 rw [if_pos c2004] at H
 have c2004b0 : decide (t277 < 0) = true := decide_eq_true c2004
 clear c2004
 (first | rw [c2004b0] | (simp only [i64_w, i32_w]; rw [c2004b0]) | skip)
 have H' := Aside0.mk H
 clear H
 rotate_left
 rw [if_neg c2004] at H
 have c2004b0 : decide (t277 < 0) = false := decide_eq_false c2004
 clear c2004
 (first | rw [c2004b0] | (simp only [i64_w, i32_w]; rw [c2004b0]) | skip)
 replace H := Option.bind_eq_some_iff.mp H
 obtain ⟨t279, A20050, H⟩ := H
 have A2005 := Aside0.mk A20050
 clear A20050
 by_cases c2006 : t279 = true
 subst c2006
 have H1 : (laws_FnExactDecodeSegment.j1 kj8 l0 a1 a2 t249 (t270 != t249) t233 t234 t235 t236 t237 t238 t239 t240 t241 t242 t243 t246 t254 t255 t256 t257 t258 t259 t260 t261 t262 t263 t264 t267) = some r := by rw [if_pos rfl] at H; exact H
 clear H
 have H := H1
 clear H1
 have H' := Aside0.mk H
 clear H
 rotate_left
 replace c2006 := Bool.eq_false_iff.mpr c2006
 subst c2006
 have H1 : (laws_FnExactDecodeSegment.j1 kj8 l0 a1 a2 t249 true t233 t234 t235 t236 t237 t238 t239 t240 t241 t242 t243 t246 t254 t255 t256 t257 t258 t259 t260 t261 t262 t263 t264 t267) = some r := by rw [if_neg (show ¬ (false = true) by decide)] at H; exact H
 clear H
 have H := H1
 clear H1
 have H' := Aside0.mk H
 clear H
 rotate_left
 {
 go_wp2
 go_meet
 case rel => exact ⟨_, (true), (by first | rfl | (simp; done) | (simp [*]; done)), H', ⟨by have := HJ8.out; first | omega | exact Nat.le_refl _⟩, ⟨Rh HO_251010⟩, ⟨Kd.R_mono (Rh HO_251011) (fun _ hk => hk.2.1)⟩, ⟨Rh HO_272010⟩, ⟨Kd.R_mono (Rh HO_272011) (fun _ hk => hk.2.1)⟩, ⟨Bh BK250⟩, ⟨Bh BK271⟩, ⟨wB⟩⟩
 }
 all_goals (
 have hnb3001 := NB271_250.out
 have hnc3001 := NB250_271.out
 obtain ⟨⟨hcz3002_0, hcz3002_1, hcz3002_2, hcz3002_3, hcz3002_4, hcz3002_5, hcz3002_6, hcz3002_7, hcz3002_8, hcz3002_9, hcz3002_10, hcz3002_11⟩, hfz3002_0, hfz3002_1, hfz3002_2, hfz3002_3, hfz3002_4, hfz3002_5, hfz3002_6, hfz3002_7, hfz3002_8, hfz3002_9, hfz3002_10, hfz3002_11⟩ := cells12 BK271.out
 obtain ⟨⟨hcz3003_0, hcz3003_1, hcz3003_2, hcz3003_3, hcz3003_4, hcz3003_5, hcz3003_6, hcz3003_7, hcz3003_8, hcz3003_9, hcz3003_10, hcz3003_11⟩, hfz3003_0, hfz3003_1, hfz3003_2, hfz3003_3, hfz3003_4, hfz3003_5, hfz3003_6, hfz3003_7, hfz3003_8, hfz3003_9, hfz3003_10, hfz3003_11⟩ := cells12 BK250.out
 go_wp2_with (first | (go_at_call 8; (with_reducible refine (laws_eqSegment.calls kj8 t254 t255 t256 t257 t258 t259 t260 t261 t262 t263 _ _ t264 _ _ t267 t233 t234 t235 t236 t237 t238 t239 t240 t241 t242 _ _ t243 _ _ t246 _ _ ?side1 ?side2 ?side3 ?side4 ?side5 ?side6 ?side7 ?side8 A2005.out).mono ?_); (case side1 => exact Ch HO_272010); (case side2 => exact (Kd.R_reads' HO_272010.out).2.1); (case side3 => exact Ch HO_272011); (case side4 => exact (Kd.R_reads' HO_272011.out).2.1); (case side5 => exact Ch HO_251010); (case side6 => exact (Kd.R_reads' HO_251010.out).2.1); (case side7 => exact Ch HO_251011); (case side8 => exact (Kd.R_reads' HO_251011.out).2.1); rintro e w3004 ⟨rfl, hb⟩; have n0_ := Aside0.mk (Kd.R_below (Rh HO_9) hb); have n1_ := Aside0.mk (Kd.R_below (Rh HO_251010) hb); have n2_ := Aside0.mk (Kd.R_below (Rh HO_251011) hb); have n3_ := Aside0.mk (Kd.R_below (Rh HO_272010) hb); have n4_ := Aside0.mk (Kd.R_below (Rh HO_272011) hb); have n5_ := Aside0.mk (Kd.R_below (Rh HO275) hb); have n6_ := Aside0.mk (blk_below (Bh BK250) hb); have n7_ := Aside0.mk (blk_below (Bh BK271) hb); have n8_ := Aside0.mk (below_step wB hb); clear HO_9; clear HO_251010; clear HO_251011; clear HO_272010; clear HO_272011; clear HO275; clear BK250; clear BK271; clear HB; have HO_9 := n0_; have HO_251010 := n1_; have HO_251011 := n2_; have HO_272010 := n3_; have HO_272011 := n4_; have HO275 := n5_; have BK250 := n6_; have BK271 := n7_; have HB := n8_; clear n0_ n1_ n2_ n3_ n4_ n5_ n6_ n7_ n8_; (try clear hb); (try clear hb2); (try clear hk); (try clear hi)))
 go_meet
 )
 {
 case rel => exact ⟨_, ((t270 != t249)), (by first | rfl | (simp; done) | (simp [*]; done)), H', ⟨by have := HJ8.out; first | omega | exact Nat.le_refl _⟩, ⟨Rh HO_251010⟩, ⟨Kd.R_mono (Rh HO_251011) (fun _ hk => hk.2.1)⟩, ⟨Rh HO_272010⟩, ⟨Kd.R_mono (Rh HO_272011) (fun _ hk => hk.2.1)⟩, ⟨Bh BK250⟩, ⟨Bh BK271⟩, ⟨wB⟩⟩
 }
 {
 case rel => exact ⟨_, (true), (by first | rfl | (simp; done) | (simp [*]; done)), H', ⟨by have := HJ8.out; first | omega | exact Nat.le_refl _⟩, ⟨Rh HO_251010⟩, ⟨Kd.R_mono (Rh HO_251011) (fun _ hk => hk.2.1)⟩, ⟨Rh HO_272010⟩, ⟨Kd.R_mono (Rh HO_272011) (fun _ hk => hk.2.1)⟩, ⟨Bh BK250⟩, ⟨Bh BK271⟩, ⟨wB⟩⟩
 }
 )
 case rest => (
 clear HC1025
 try clear c0
 try clear c4
 try clear c4b0
 try clear c4b1
 try clear c1019
 try clear c1020
 try clear c1023
 try clear c2004
 try clear c2004b0
 try clear c2006
 try clear hcz1005_0 hcz1005_1 hcz1005_10 hcz1005_11 hcz1005_2 hcz1005_3 hcz1005_4 hcz1005_5 hcz1005_6 hcz1005_7 hcz1005_8 hcz1005_9 hfz1005_0 hfz1005_1 hfz1005_10 hfz1005_11 hfz1005_2 hfz1005_3 hfz1005_4 hfz1005_5 hfz1005_6 hfz1005_7 hfz1005_8 hfz1005_9
 try clear hcz1014_0 hcz1014_1 hcz1014_10 hcz1014_11 hcz1014_2 hcz1014_3 hcz1014_4 hcz1014_5 hcz1014_6 hcz1014_7 hcz1014_8 hcz1014_9 hfz1014_0 hfz1014_1 hfz1014_10 hfz1014_11 hfz1014_2 hfz1014_3 hfz1014_4 hfz1014_5 hfz1014_6 hfz1014_7 hfz1014_8 hfz1014_9
 try clear hcz2002_0 hcz2002_1 hcz2002_10 hcz2002_11 hcz2002_2 hcz2002_3 hcz2002_4 hcz2002_5 hcz2002_6 hcz2002_7 hcz2002_8 hcz2002_9 hfz2002_0 hfz2002_1 hfz2002_10 hfz2002_11 hfz2002_2 hfz2002_3 hfz2002_4 hfz2002_5 hfz2002_6 hfz2002_7 hfz2002_8 hfz2002_9
 try clear hcz2003_0 hcz2003_1 hcz2003_10 hcz2003_11 hcz2003_2 hcz2003_3 hcz2003_4 hcz2003_5 hcz2003_6 hcz2003_7 hcz2003_8 hcz2003_9 hfz2003_0 hfz2003_1 hfz2003_10 hfz2003_11 hfz2003_2 hfz2003_3 hfz2003_4 hfz2003_5 hfz2003_6 hfz2003_7 hfz2003_8 hfz2003_9
 try clear hcz3002_0 hcz3002_1 hcz3002_10 hcz3002_11 hcz3002_2 hcz3002_3 hcz3002_4 hcz3002_5 hcz3002_6 hcz3002_7 hcz3002_8 hcz3002_9 hfz3002_0 hfz3002_1 hfz3002_10 hfz3002_11 hfz3002_2 hfz3002_3 hfz3002_4 hfz3002_5 hfz3002_6 hfz3002_7 hfz3002_8 hfz3002_9
 try clear hcz3003_0 hcz3003_1 hcz3003_10 hcz3003_11 hcz3003_2 hcz3003_3 hcz3003_4 hcz3003_5 hcz3003_6 hcz3003_7 hcz3003_8 hcz3003_9 hfz3003_0 hfz3003_1 hfz3003_10 hfz3003_11 hfz3003_2 hfz3003_3 hfz3003_4 hfz3003_5 hfz3003_6 hfz3003_7 hfz3003_8 hfz3003_9
 obtain ⟨kq, x66_1024, rfl, HA, HJ1024, HO_251010, HO_251011, HO_272010, HO_272011, BK250, BK271, HB⟩ := hcut
 cases kq with
 | zero => exact absurd HA.out (by simp [laws_FnExactDecodeSegment.j1])
 | succ kj1024 => {
 have H := HA.out
 clear HA
 simp only [laws_FnExactDecodeSegment.j1] at H
 by_cases c2007 : x66_1024 = true
 subst c2007
 have H1 : (some false) = some r := by rw [if_pos rfl] at H; exact H
 clear H
 have H := H1
 clear H1
 obtain rfl := Option.some.inj H
 rotate_left
 replace c2007 := Bool.eq_false_iff.mpr c2007
 subst c2007
 have H1 : ((laws_markSegment.f kj1024 t254 t255 t256 t257 t258 t259 t260 t261 t262 t263 t264 t267 1).bind fun bt280 => ((laws_heldSegment.f kj1024 t254 t255 t256 t257 t258 t259 t260 t261 t262 t263 bt280.2.1 bt280.2.2 1).bind fun t283 => (if t283 < 0 then (some false) else (if t283 = bt280.1 then ((laws_toByteS.f kj1024 l0).bind fun t284 => ((impl_DecodeSegment.f kj1024 t284 a1 a2).bind fun bt287 => ((laws_eqSegment.f kj1024 bt287.1 bt287.2.1 bt287.2.2.1 bt287.2.2.2.1 bt287.2.2.2.2.1 bt287.2.2.2.2.2.1 bt287.2.2.2.2.2.2.1 bt287.2.2.2.2.2.2.2.1 bt287.2.2.2.2.2.2.2.2.1 bt287.2.2.2.2.2.2.2.2.2.1 bt287.2.2.2.2.2.2.2.2.2.2.1 bt287.2.2.2.2.2.2.2.2.2.2.2.1 t233 t234 t235 t236 t237 t238 t239 t240 t241 t242 t243 t246).bind fun t305 => (if t305 = true then (laws_FnExactDecodeSegment.j2 kj1024 bt280.1 (bt287.2.2.2.2.2.2.2.2.2.2.2.2 != t249) t254 t255 t256 t257 t258 t259 t260 t261 t262 t263 bt280.2.1 bt280.2.2) else (laws_FnExactDecodeSegment.j2 kj1024 bt280.1 true t254 t255 t256 t257 t258 t259 t260 t261 t262 t263 bt280.2.1 bt280.2.2))))) else (some false))))) = some r := by rw [if_neg (show ¬ (false = true) by decide)] at H; exact H
 clear H
 have H := H1
 clear H1
 replace H := Option.bind_eq_some_iff.mp H
 obtain ⟨⟨t280, t281, t282⟩, A20080, H⟩ := H
 replace H : ((laws_heldSegment.f kj1024 t254 t255 t256 t257 t258 t259 t260 t261 t262 t263 t281 t282 1).bind fun t283 => (if t283 < 0 then (some false) else (if t283 = t280 then ((laws_toByteS.f kj1024 l0).bind fun t284 => ((impl_DecodeSegment.f kj1024 t284 a1 a2).bind fun bt287 => ((laws_eqSegment.f kj1024 bt287.1 bt287.2.1 bt287.2.2.1 bt287.2.2.2.1 bt287.2.2.2.2.1 bt287.2.2.2.2.2.1 bt287.2.2.2.2.2.2.1 bt287.2.2.2.2.2.2.2.1 bt287.2.2.2.2.2.2.2.2.1 bt287.2.2.2.2.2.2.2.2.2.1 bt287.2.2.2.2.2.2.2.2.2.2.1 bt287.2.2.2.2.2.2.2.2.2.2.2.1 t233 t234 t235 t236 t237 t238 t239 t240 t241 t242 t243 t246).bind fun t305 => (if t305 = true then (laws_FnExactDecodeSegment.j2 kj1024 t280 (bt287.2.2.2.2.2.2.2.2.2.2.2.2 != t249) t254 t255 t256 t257 t258 t259 t260 t261 t262 t263 t281 t282) else (laws_FnExactDecodeSegment.j2 kj1024 t280 true t254 t255 t256 t257 t258 t259 t260 t261 t262 t263 t281 t282))))) else (some false)))) = some r := H
 have A2008 := Aside0.mk A20080
 clear A20080
 replace H := Option.bind_eq_some_iff.mp H
 obtain ⟨t283, A20090, H⟩ := H
 have A2009 := Aside0.mk A20090
 clear A20090
 by_cases c2010 : t283 < 0
 rw [if_pos c2010] at H
 have c2010b0 : decide (t283 < 0) = true := decide_eq_true c2010
 clear c2010
 obtain rfl := Option.some.inj H
 rotate_left
 rw [if_neg c2010] at H
 have c2010b0 : decide (t283 < 0) = false := decide_eq_false c2010
 clear c2010
 by_cases c2011 : t283 = t280
 rw [if_pos c2011] at H
 have c2011b0 : (t283 == t280) = true := beq_iff_eq.mpr c2011
 have c2011b1 : (t283 != t280) = false := bne_eq_false_iff_eq.mpr c2011
 clear c2011
 replace H := Option.bind_eq_some_iff.mp H
 obtain ⟨t284, A20120, H⟩ := H
 have A2012 := Aside0.mk A20120
 clear A20120
 replace H := Option.bind_eq_some_iff.mp H
 obtain ⟨⟨t287, t288, t289, t290, t291, t292, t293, t294, t295, t296, t297, t300, t303⟩, A20130, H⟩ := H
 replace H : ((laws_eqSegment.f kj1024 t287 t288 t289 t290 t291 t292 t293 t294 t295 t296 t297 t300 t233 t234 t235 t236 t237 t238 t239 t240 t241 t242 t243 t246).bind fun t305 => (if t305 = true then (laws_FnExactDecodeSegment.j2 kj1024 t280 (t303 != t249) t254 t255 t256 t257 t258 t259 t260 t261 t262 t263 t281 t282) else (laws_FnExactDecodeSegment.j2 kj1024 t280 true t254 t255 t256 t257 t258 t259 t260 t261 t262 t263 t281 t282))) = some r := H
 have A2013 := Aside0.mk A20130
 clear A20130
 have HC2014 := Aside0.mk H
 clear H
 rotate_left
 rw [if_neg c2011] at H
 have c2011b0 : (t283 == t280) = false := beq_eq_false_iff_ne.mpr c2011
 have c2011b1 : (t283 != t280) = true := bne_iff_ne.mpr c2011
 obtain rfl := Option.some.inj H
 rotate_left
 {
 go_wp2
 go_ret
 exact ⟨by first | rfl | (simp [errW_none, errW_some] <;> rfl) | (simp [*, errW_none, errW_some] <;> rfl), wB⟩
 }
 all_goals (
 have hnb3001 := NB271_250.out
 have hnc3001 := NB250_271.out
 obtain ⟨⟨hcz3002_0, hcz3002_1, hcz3002_2, hcz3002_3, hcz3002_4, hcz3002_5, hcz3002_6, hcz3002_7, hcz3002_8, hcz3002_9, hcz3002_10, hcz3002_11⟩, hfz3002_0, hfz3002_1, hfz3002_2, hfz3002_3, hfz3002_4, hfz3002_5, hfz3002_6, hfz3002_7, hfz3002_8, hfz3002_9, hfz3002_10, hfz3002_11⟩ := cells12 BK271.out
 )
 {
 go_wp2_with (first | ((with_reducible refine gate_callee (f := 11) rfl ?_); refine goesL_ (some 69) rfl rfl Try.func11 (by kernel_rfl) rfl #[.agg #[.int .i64 t254, .int .i64 t255, .int .i64 t256, .int .i64 t257, .int .i64 t258, .int .i64 t259, .int .i64 t260, .bool t261, .int .i64 t262, .bool t263, .slice Ao1015 t264.length co1015, .slice Ao1016 t267.length co1016], .int .i64 1] rfl wT ?_; (with_reducible refine (laws_markSegment.calls kj1024 t254 t255 t256 t257 t258 t259 t260 t261 t262 t263 (fun k_ => some k_ = (.slice Ao1015 t264.length co1015 : Value).ownBlock) (.slice Ao1015 t264.length co1015) t264 (fun k_ => some k_ = (.slice Ao1016 t267.length co1016 : Value).ownBlock) (.slice Ao1016 t267.length co1016) t267 1 t280 t281 t282 w _ ?side1 ?side2 ?side3 A2008.out).mono ?_); (case side1 => repeat (first | (with_reducible first | exact HB.out | apply below_alloc | apply pw_below_drewN | apply below_drew1 | refine below_set ?_ GE250.out | refine below_set ?_ GE271.out) | exact HB.out)); (case side2 => exact Kd.R_tight rfl HO_272010.out); (case side3 => exact Kd.R_tight rfl HO_272011.out); rintro e w3003 ⟨rfl, hy0, hy1, hb, hkp⟩; refine ⟨_, rfl, ?_⟩; have n0_ := Aside0.mk (Kd.R_mono (ok' := fun k_ => some k_ ≠ (.slice Ao1015 t264.length co1015 : Value).ownBlock) (Kd.R_keptB ((Kd.R_apart' HO_251010.out (Kd.R_typed HO_272011.out) (by decide))) hkp (fun k_ hk_ hs_ => Or.elim hs_ (fun e_ => (hk_.1) e_) (fun e_ => (hk_.2) e_))) (fun k_ hk_ => hk_.1.1)); have n1_ := Aside0.mk (Kd.R_mono (ok' := fun k_ => some k_ ≠ (.slice Ao1016 t267.length co1016 : Value).ownBlock) (Kd.R_keptB ((Kd.R_apart' HO_251011.out (Kd.R_typed HO_272010.out) (by decide))) hkp (fun k_ hk_ hs_ => Or.elim hs_ (fun e_ => (hk_.2) e_) (fun e_ => (hk_.1) e_))) (fun k_ hk_ => hk_.1.1)); have n2_ := Aside0.mk (Kd.R_reok rfl hy0 (fun k_ e_ => HO_272010.out.1 k_ e_)); have n3_ := Aside0.mk (Kd.R_reok rfl hy1 (fun k_ e_ => HO_272011.out.1 k_ e_)); have n4_ := Aside0.mk (blk_kept (Bh BK250) hkp (fun hs_ => Or.elim hs_ (fun e_ => (fun e_ => (Kd.R_ne HO_272010.out BK250.out (by decide)) e_) e_) (fun e_ => (fun e_ => (Kd.R_ne HO_272011.out BK250.out (by decide)) e_) e_))); have n5_ := Aside0.mk (blk_kept (Bh BK271) hkp (fun hs_ => Or.elim hs_ (fun e_ => (fun e_ => (Kd.R_ne HO_272010.out BK271.out (by decide)) e_) e_) (fun e_ => (fun e_ => (Kd.R_ne HO_272011.out BK271.out (by decide)) e_) e_))); have n6_ := Aside0.mk (hb); clear HO_251010; clear HO_251011; clear HO_272010; clear HO_272011; clear BK250; clear BK271; clear HB; have HO_251010 := n0_; have HO_251011 := n1_; have HO_272010 := n2_; have HO_272011 := n3_; have BK250 := n4_; have BK271 := n5_; have HB := n6_; clear n0_ n1_ n2_ n3_ n4_ n5_ n6_; (try clear hb); (try clear hkp); (try clear hy0); (try clear hy1); obtain ⟨⟨hcz3004_0, hcz3004_1, hcz3004_2, hcz3004_3, hcz3004_4, hcz3004_5, hcz3004_6, hcz3004_7, hcz3004_8, hcz3004_9, hcz3004_10, hcz3004_11⟩, hfz3004_0, hfz3004_1, hfz3004_2, hfz3004_3, hfz3004_4, hfz3004_5, hfz3004_6, hfz3004_7, hfz3004_8, hfz3004_9, hfz3004_10, hfz3004_11⟩ := cells12 BK271.out) | ((with_reducible refine gate_callee (f := 12) rfl ?_); refine goesL_ (some 72) rfl rfl Try.func12 (by kernel_rfl) rfl #[.agg #[.int .i64 t254, .int .i64 t255, .int .i64 t256, .int .i64 t257, .int .i64 t258, .int .i64 t259, .int .i64 t260, .bool t261, .int .i64 t262, .bool t263, .slice Ao1015 t281.length co1015, .slice Ao1016 t282.length co1016], .int .i64 1] rfl (by (try simp only [List.map_toArray, List.map_cons, List.map_nil]); first | done | (rw [show t281.length = t264.length from (Kd.R_reads' HO_272010.out).1.symm, show t282.length = t267.length from (Kd.R_reads' HO_272011.out).1.symm] <;> rfl) | rfl | (simp only [List.length_drop, List.length_take]; rfl)) ?_; (with_reducible refine (laws_heldSegment.calls kj1024 t254 t255 t256 t257 t258 t259 t260 t261 t262 t263 _ _ t281 _ _ t282 1 t283 _ ?side1 ?side2 ?side3 ?side4 A2009.out).mono ?_); (case side1 => exact Ch HO_272010); (case side2 => rw [show t281.length = t264.length from (Kd.R_reads' HO_272010.out).1.symm]; exact (Kd.R_reads' HO_272010.out).2.1); (case side3 => exact Ch HO_272011); (case side4 => rw [show t282.length = t267.length from (Kd.R_reads' HO_272011.out).1.symm]; exact (Kd.R_reads' HO_272011.out).2.1); rintro e w3005 ⟨rfl, hb⟩; refine ⟨_, rfl, ?_⟩; have n0_ := Aside0.mk (Kd.R_below (Rh HO_251010) hb); have n1_ := Aside0.mk (Kd.R_below (Rh HO_251011) hb); have n2_ := Aside0.mk (Kd.R_below (Rh HO_272010) hb); have n3_ := Aside0.mk (Kd.R_below (Rh HO_272011) hb); have n4_ := Aside0.mk (blk_below (Bh BK250) hb); have n5_ := Aside0.mk (blk_below (Bh BK271) hb); have n6_ := Aside0.mk (below_step wB hb); clear HO_251010; clear HO_251011; clear HO_272010; clear HO_272011; clear BK250; clear BK271; clear HB; have HO_251010 := n0_; have HO_251011 := n1_; have HO_272010 := n2_; have HO_272011 := n3_; have BK250 := n4_; have BK271 := n5_; have HB := n6_; clear n0_ n1_ n2_ n3_ n4_ n5_ n6_; (try clear hb); (try clear hb2); (try clear hk); (try clear hi)))
 go_ret
 exact ⟨by first | rfl | (simp [errW_none, errW_some] <;> rfl) | (simp [*, errW_none, errW_some] <;> rfl), wB⟩
 }
 {
 go_upto_region 23 with (first | ((with_reducible refine gate_callee (f := 11) rfl ?_); refine goesL_ (some 69) rfl rfl Try.func11 (by kernel_rfl) rfl #[.agg #[.int .i64 t254, .int .i64 t255, .int .i64 t256, .int .i64 t257, .int .i64 t258, .int .i64 t259, .int .i64 t260, .bool t261, .int .i64 t262, .bool t263, .slice Ao1015 t264.length co1015, .slice Ao1016 t267.length co1016], .int .i64 1] rfl wT ?_; (with_reducible refine (laws_markSegment.calls kj1024 t254 t255 t256 t257 t258 t259 t260 t261 t262 t263 (fun k_ => some k_ = (.slice Ao1015 t264.length co1015 : Value).ownBlock) (.slice Ao1015 t264.length co1015) t264 (fun k_ => some k_ = (.slice Ao1016 t267.length co1016 : Value).ownBlock) (.slice Ao1016 t267.length co1016) t267 1 t280 t281 t282 w _ ?side1 ?side2 ?side3 A2008.out).mono ?_); (case side1 => repeat (first | (with_reducible first | exact HB.out | apply below_alloc | apply pw_below_drewN | apply below_drew1 | refine below_set ?_ GE250.out | refine below_set ?_ GE271.out) | exact HB.out)); (case side2 => exact Kd.R_tight rfl HO_272010.out); (case side3 => exact Kd.R_tight rfl HO_272011.out); rintro e w3003 ⟨rfl, hy0, hy1, hb, hkp⟩; refine ⟨_, rfl, ?_⟩; have n0_ := Aside0.mk (Kd.R_mono (ok' := fun k_ => some k_ ≠ (.slice Ao1015 t264.length co1015 : Value).ownBlock) (Kd.R_keptB ((Kd.R_apart' HO_251010.out (Kd.R_typed HO_272011.out) (by decide))) hkp (fun k_ hk_ hs_ => Or.elim hs_ (fun e_ => (hk_.1) e_) (fun e_ => (hk_.2) e_))) (fun k_ hk_ => hk_.1.1)); have n1_ := Aside0.mk (Kd.R_mono (ok' := fun k_ => some k_ ≠ (.slice Ao1016 t267.length co1016 : Value).ownBlock) (Kd.R_keptB ((Kd.R_apart' HO_251011.out (Kd.R_typed HO_272010.out) (by decide))) hkp (fun k_ hk_ hs_ => Or.elim hs_ (fun e_ => (hk_.2) e_) (fun e_ => (hk_.1) e_))) (fun k_ hk_ => hk_.1.1)); have n2_ := Aside0.mk (Kd.R_reok rfl hy0 (fun k_ e_ => HO_272010.out.1 k_ e_)); have n3_ := Aside0.mk (Kd.R_reok rfl hy1 (fun k_ e_ => HO_272011.out.1 k_ e_)); have n4_ := Aside0.mk (blk_kept (Bh BK250) hkp (fun hs_ => Or.elim hs_ (fun e_ => (fun e_ => (Kd.R_ne HO_272010.out BK250.out (by decide)) e_) e_) (fun e_ => (fun e_ => (Kd.R_ne HO_272011.out BK250.out (by decide)) e_) e_))); have n5_ := Aside0.mk (blk_kept (Bh BK271) hkp (fun hs_ => Or.elim hs_ (fun e_ => (fun e_ => (Kd.R_ne HO_272010.out BK271.out (by decide)) e_) e_) (fun e_ => (fun e_ => (Kd.R_ne HO_272011.out BK271.out (by decide)) e_) e_))); have n6_ := Aside0.mk (hb); clear HO_251010; clear HO_251011; clear HO_272010; clear HO_272011; clear BK250; clear BK271; clear HB; have HO_251010 := n0_; have HO_251011 := n1_; have HO_272010 := n2_; have HO_272011 := n3_; have BK250 := n4_; have BK271 := n5_; have HB := n6_; clear n0_ n1_ n2_ n3_ n4_ n5_ n6_; (try clear hb); (try clear hkp); (try clear hy0); (try clear hy1); obtain ⟨⟨hcz3004_0, hcz3004_1, hcz3004_2, hcz3004_3, hcz3004_4, hcz3004_5, hcz3004_6, hcz3004_7, hcz3004_8, hcz3004_9, hcz3004_10, hcz3004_11⟩, hfz3004_0, hfz3004_1, hfz3004_2, hfz3004_3, hfz3004_4, hfz3004_5, hfz3004_6, hfz3004_7, hfz3004_8, hfz3004_9, hfz3004_10, hfz3004_11⟩ := cells12 BK271.out) | ((with_reducible refine gate_callee (f := 12) rfl ?_); refine goesL_ (some 72) rfl rfl Try.func12 (by kernel_rfl) rfl #[.agg #[.int .i64 t254, .int .i64 t255, .int .i64 t256, .int .i64 t257, .int .i64 t258, .int .i64 t259, .int .i64 t260, .bool t261, .int .i64 t262, .bool t263, .slice Ao1015 t281.length co1015, .slice Ao1016 t282.length co1016], .int .i64 1] rfl (by (try simp only [List.map_toArray, List.map_cons, List.map_nil]); first | done | (rw [show t281.length = t264.length from (Kd.R_reads' HO_272010.out).1.symm, show t282.length = t267.length from (Kd.R_reads' HO_272011.out).1.symm] <;> rfl) | rfl | (simp only [List.length_drop, List.length_take]; rfl)) ?_; (with_reducible refine (laws_heldSegment.calls kj1024 t254 t255 t256 t257 t258 t259 t260 t261 t262 t263 _ _ t281 _ _ t282 1 t283 _ ?side1 ?side2 ?side3 ?side4 A2009.out).mono ?_); (case side1 => exact Ch HO_272010); (case side2 => rw [show t281.length = t264.length from (Kd.R_reads' HO_272010.out).1.symm]; exact (Kd.R_reads' HO_272010.out).2.1); (case side3 => exact Ch HO_272011); (case side4 => rw [show t282.length = t267.length from (Kd.R_reads' HO_272011.out).1.symm]; exact (Kd.R_reads' HO_272011.out).2.1); rintro e w3005 ⟨rfl, hb⟩; refine ⟨_, rfl, ?_⟩; have n0_ := Aside0.mk (Kd.R_below (Rh HO_251010) hb); have n1_ := Aside0.mk (Kd.R_below (Rh HO_251011) hb); have n2_ := Aside0.mk (Kd.R_below (Rh HO_272010) hb); have n3_ := Aside0.mk (Kd.R_below (Rh HO_272011) hb); have n4_ := Aside0.mk (blk_below (Bh BK250) hb); have n5_ := Aside0.mk (blk_below (Bh BK271) hb); have n6_ := Aside0.mk (below_step wB hb); clear HO_251010; clear HO_251011; clear HO_272010; clear HO_272011; clear BK250; clear BK271; clear HB; have HO_251010 := n0_; have HO_251011 := n1_; have HO_272010 := n2_; have HO_272011 := n3_; have BK250 := n4_; have BK271 := n5_; have HB := n6_; clear n0_ n1_ n2_ n3_ n4_ n5_ n6_; (try clear hb); (try clear hb2); (try clear hk); (try clear hi)) | ((with_reducible refine gate_callee (f := 6) rfl ?_); refine goesL_ (some 80) rfl rfl Try.func6 (by kernel_rfl) rfl #[.slice A0 l0.length c0] rfl wT ?_; (with_reducible refine (laws_toByteS.calls kj1024 _ _ l0 t284 _ ?side1 ?side2 A2012.out).mono ?_); (case side1 => exact Kd.C_below HR0.out wB); (case side2 => exact HC0.out); rintro e w3006 ⟨v285, rfl, ho0, hb⟩; refine ⟨_, rfl, ?_⟩; have n0_ := Aside0.mk (Kd.R_below (Rh HO_251010) hb); have n1_ := Aside0.mk (Kd.R_elder' (Rh HO_251011) (Kd.R_base ho0) hb); have n2_ := Aside0.mk (Kd.R_below (Rh HO_272010) hb); have n3_ := Aside0.mk (Kd.R_elder' (Rh HO_272011) (Kd.R_base ho0) hb); have n4_ := Aside0.mk (Kd.R_lower (Kd.R_new' (Kd.R_new' ho0 (Kd.R_lt (Rh HO_251011))) (Kd.R_lt (Rh HO_272011))) (below_size wB)); have n5_ := Aside0.mk (blk_below (Bh BK250) hb); have n6_ := Aside0.mk (blk_below (Bh BK271) hb); have n7_ := Aside0.mk (below_step wB hb); clear HO_251010; clear HO_251011; clear HO_272010; clear HO_272011; clear BK250; clear BK271; clear HB; have HO_251010 := n0_; have HO_251011 := n1_; have HO_272010 := n2_; have HO_272011 := n3_; have HO286 := n4_; have BK250 := n5_; have BK271 := n6_; have HB := n7_; clear n0_ n1_ n2_ n3_ n4_ n5_ n6_ n7_; (try clear hb); (try clear hb2); (try clear hk); (try clear hi); (try clear ho0); obtain ⟨Ao3007, co3007, eo3007⟩ := Kd.R_slice HO286.out; subst eo3007) | ((with_reducible refine gate_callee (f := 7) rfl ?_); refine goesL_ (some 83) rfl rfl Try.func7 (by kernel_rfl) rfl #[.slice Ao3007 t284.length co3007, .int .i64 a1, .int .i64 a2] rfl wT ?_; (with_reducible refine (impl_DecodeSegment.calls kj1024 _ _ t284 a1 a2 t287 t288 t289 t290 t291 t292 t293 t294 t295 t296 t297 t300 t303 _ ?side1 ?side2 A2013.out).mono ?_); (case side1 => exact Ch HO286); (case side2 => exact (Kd.R_reads' HO286.out).2.1); rintro e w3008 ⟨v298, v301, rfl, ho0, ho1, hb⟩; refine ⟨_, rfl, ?_⟩; have n0_ := Aside0.mk (Kd.R_elder' (Rh HO_251010) (Kd.R_base ho0) hb); have n1_ := Aside0.mk (Kd.R_elder' (Rh HO_251011) (Kd.R_base ho1) hb); have n2_ := Aside0.mk (Kd.R_elder' (Rh HO_272010) (Kd.R_base ho0) hb); have n3_ := Aside0.mk (Kd.R_elder' (Rh HO_272011) (Kd.R_base ho1) hb); have n4_ := Aside0.mk (Kd.R_elder' (Rh HO286) (Kd.R_base ho1) hb); have n5_ := Aside0.mk (Kd.R_lower (Kd.R_new' (Kd.R_new' ho0 (Kd.R_lt (Rh HO_251010))) (Kd.R_lt (Rh HO_272010))) (below_size wB)); have n6_ := Aside0.mk (Kd.R_lower (Kd.R_new' (Kd.R_new' (Kd.R_new' ho1 (Kd.R_lt (Rh HO_251011))) (Kd.R_lt (Rh HO_272011))) (Kd.R_lt (Rh HO286))) (below_size wB)); have n7_ := Aside0.mk (blk_below (Bh BK250) hb); have n8_ := Aside0.mk (blk_below (Bh BK271) hb); have n9_ := Aside0.mk (below_step wB hb); clear HO_251010; clear HO_251011; clear HO_272010; clear HO_272011; clear HO286; clear BK250; clear BK271; clear HB; have HO_251010 := n0_; have HO_251011 := n1_; have HO_272010 := n2_; have HO_272011 := n3_; have HO286 := n4_; have HO299 := n5_; have HO302 := n6_; have BK250 := n7_; have BK271 := n8_; have HB := n9_; clear n0_ n1_ n2_ n3_ n4_ n5_ n6_ n7_ n8_ n9_; (try clear hb); (try clear hb2); (try clear hk); (try clear hi); (try clear ho0); (try clear ho1)) | ((with_reducible refine gate_dst (N := 15) rfl ?_); refine box_event ?hg (N := 15) ?hd (cs := #[.int .i64 0, .int .i64 0, .int .i64 0, .int .i64 0, .int .i64 0, .int .i64 0, .int .i64 0, .bool false, .int .i64 0, .bool false, .slice none 0 0, .slice none 0 0]) (t := 25) ?hr ?_; (case hd => rfl); (case hg => rfl); (case hr => first | (go_simp; done) | (go_simp; rfl)); intro gb304 hg w3009 hbox hb; have n0_ := Aside0.mk (Kd.R_below (Rh HO_251010) hb); have n1_ := Aside0.mk (Kd.R_below (Rh HO_251011) hb); have n2_ := Aside0.mk (Kd.R_below (Rh HO_272010) hb); have n3_ := Aside0.mk (Kd.R_below (Rh HO_272011) hb); have n4_ := Aside0.mk (Kd.R_below (Rh HO286) hb); have n5_ := Aside0.mk (Kd.R_below (Rh HO299) hb); have n6_ := Aside0.mk (Kd.R_below (Rh HO302) hb); have n7_ := Aside0.mk (blk_below (Bh BK250) hb); have n8_ := Aside0.mk (blk_below (Bh BK271) hb); have n9_ := Aside0.mk (below_step wB hb); have n10_ := Aside0.mk (hbox); have n11_ := Aside0.mk ((by rw [hg]; exact (below_size wB) : w.heap.size ≤ gb304)); have n12_ := Aside0.mk ((by rw [hg]; exact (below_size wB) : w.heap.size ≤ gb304)); have n13_ := Aside0.mk ((by rw [hg]; exact Nat.ne_of_lt (blk_lt (Bh BK250)) : gb250 ≠ gb304)); have n14_ := Aside0.mk ((by rw [hg]; exact Nat.ne_of_gt (blk_lt (Bh BK250)) : gb304 ≠ gb250)); have n15_ := Aside0.mk ((by rw [hg]; exact Nat.ne_of_lt (blk_lt (Bh BK271)) : gb271 ≠ gb304)); have n16_ := Aside0.mk ((by rw [hg]; exact Nat.ne_of_gt (blk_lt (Bh BK271)) : gb304 ≠ gb271)); clear HO_251010; clear HO_251011; clear HO_272010; clear HO_272011; clear HO286; clear HO299; clear HO302; clear BK250; clear BK271; clear HB; have HO_251010 := n0_; have HO_251011 := n1_; have HO_272010 := n2_; have HO_272011 := n3_; have HO286 := n4_; have HO299 := n5_; have HO302 := n6_; have BK250 := n7_; have BK271 := n8_; have HB := n9_; have BK304 := n10_; have GW304 := n11_; have GE304 := n12_; have NB250_304 := n13_; have NB304_250 := n14_; have NB271_304 := n15_; have NB304_271 := n16_; clear n0_ n1_ n2_ n3_ n4_ n5_ n6_ n7_ n8_ n9_ n10_ n11_ n12_ n13_ n14_ n15_ n16_; clear hb hbox hg; have hnb3010 := NB304_250.out; have hnc3010 := NB250_304.out; have hnb3011 := NB304_271.out; have hnc3011 := NB271_304.out; obtain ⟨⟨hcz3012_0, hcz3012_1, hcz3012_2, hcz3012_3, hcz3012_4, hcz3012_5, hcz3012_6, hcz3012_7, hcz3012_8, hcz3012_9, hcz3012_10, hcz3012_11⟩, hfz3012_0, hfz3012_1, hfz3012_2, hfz3012_3, hfz3012_4, hfz3012_5, hfz3012_6, hfz3012_7, hfz3012_8, hfz3012_9, hfz3012_10, hfz3012_11⟩ := cells12 BK304.out; obtain ⟨Ao3013, co3013, eo3013⟩ := Kd.R_slice HO299.out; subst eo3013; obtain ⟨Ao3014, co3014, eo3014⟩ := Kd.R_slice HO302.out; subst eo3014) | ((with_reducible refine gate_store (t := 25) (p := 15) rfl ?_); refine store_event (t := 25) (p := 15) (v := ?_) (w1 := (put12 w3009 gb304 (.int .i64 t287) (.int .i64 t288) (.int .i64 t289) (.int .i64 t290) (.int .i64 t291) (.int .i64 t292) (.int .i64 t293) (.bool t294) (.int .i64 t295) (.bool t296) (.slice Ao3013 t297.length co3013) (.slice Ao3014 t300.length co3014))) ?hg ?ho ?hn ?hr ?_; (case ho => rfl); (case hg => rfl); (case hn => rfl); (case hr => first | (go_simp; done) | (go_simp; rfl)); intro w3015 hw; have n0_ : Aside0 (Kd.R k60 60 w3015 w.heap.size (fun k_ => some k_ ≠ (.slice Ao1015 t264.length co1015 : Value).ownBlock ∧ some k_ ≠ (.slice Ao3013 t297.length co3013 : Value).ownBlock) (.slice Ao1006 t243.length co1006) t243) := ⟨(by rw [hw]; exact (by (with_reducible repeat (first | apply Kd.R_alloc | apply Kd.R_drewN | apply Kd.R_drew)); exact Kd.R_mono (Kd.R_step (Kd.R_types HO_251010.out BK304.out (by decide)) (fun _ hk _ => far12 hk.2)) (fun _ hk => ⟨hk.1.1, hk.1.2⟩)))⟩; have n1_ : Aside0 (Kd.R (Kd.int .u8) 5 w3015 w.heap.size (fun k_ => some k_ ≠ (.slice Ao1016 t267.length co1016 : Value).ownBlock ∧ some k_ ≠ (.slice Ao3007 t284.length co3007 : Value).ownBlock ∧ some k_ ≠ (.slice Ao3014 t300.length co3014 : Value).ownBlock) (.slice Ao1007 t246.length co1007) t246) := ⟨(by rw [hw]; exact (by (with_reducible repeat (first | apply Kd.R_alloc | apply Kd.R_drewN | apply Kd.R_drew)); exact Kd.R_mono (Kd.R_step (Kd.R_types HO_251011.out BK304.out (by decide)) (fun _ hk _ => far12 hk.2)) (fun _ hk => ⟨hk.1.1.1, ⟨hk.1.1.2, hk.1.2⟩⟩)))⟩; have n2_ : Aside0 (Kd.R k60 60 w3015 w.heap.size (fun k_ => some k_ ≠ (.slice Ao1006 t243.length co1006 : Value).ownBlock ∧ some k_ ≠ (.slice Ao3013 t297.length co3013 : Value).ownBlock) (.slice Ao1015 t264.length co1015) t281) := ⟨(by rw [hw]; exact (by (with_reducible repeat (first | apply Kd.R_alloc | apply Kd.R_drewN | apply Kd.R_drew)); exact Kd.R_mono (Kd.R_step (Kd.R_types HO_272010.out BK304.out (by decide)) (fun _ hk _ => far12 hk.2)) (fun _ hk => ⟨hk.1.1, hk.1.2⟩)))⟩; have n3_ : Aside0 (Kd.R (Kd.int .u8) 5 w3015 w.heap.size (fun k_ => some k_ ≠ (.slice Ao1007 t246.length co1007 : Value).ownBlock ∧ some k_ ≠ (.slice Ao3007 t284.length co3007 : Value).ownBlock ∧ some k_ ≠ (.slice Ao3014 t300.length co3014 : Value).ownBlock) (.slice Ao1016 t267.length co1016) t282) := ⟨(by rw [hw]; exact (by (with_reducible repeat (first | apply Kd.R_alloc | apply Kd.R_drewN | apply Kd.R_drew)); exact Kd.R_mono (Kd.R_step (Kd.R_types HO_272011.out BK304.out (by decide)) (fun _ hk _ => far12 hk.2)) (fun _ hk => ⟨hk.1.1.1, ⟨hk.1.1.2, hk.1.2⟩⟩)))⟩; have n4_ : Aside0 (Kd.R (Kd.int .u8) 5 w3015 w.heap.size (fun k_ => some k_ ≠ (.slice Ao1007 t246.length co1007 : Value).ownBlock ∧ some k_ ≠ (.slice Ao1016 t267.length co1016 : Value).ownBlock ∧ some k_ ≠ (.slice Ao3014 t300.length co3014 : Value).ownBlock) (.slice Ao3007 t284.length co3007) t284) := ⟨(by rw [hw]; exact (by (with_reducible repeat (first | apply Kd.R_alloc | apply Kd.R_drewN | apply Kd.R_drew)); exact Kd.R_mono (Kd.R_step (Kd.R_types HO286.out BK304.out (by decide)) (fun _ hk _ => far12 hk.2)) (fun _ hk => ⟨hk.1.1.1.2, ⟨hk.1.1.2, hk.1.2⟩⟩)))⟩; have n5_ : Aside0 (Kd.R k60 60 w3015 w.heap.size (fun k_ => some k_ ≠ (.slice Ao1006 t243.length co1006 : Value).ownBlock ∧ some k_ ≠ (.slice Ao1015 t264.length co1015 : Value).ownBlock) (.slice Ao3013 t297.length co3013) t297) := ⟨(by rw [hw]; exact (by (with_reducible repeat (first | apply Kd.R_alloc | apply Kd.R_drewN | apply Kd.R_drew)); exact Kd.R_mono (Kd.R_step (Kd.R_types HO299.out BK304.out (by decide)) (fun _ hk _ => far12 hk.2)) (fun _ hk => ⟨hk.1.1.2, hk.1.2⟩)))⟩; have n6_ : Aside0 (Kd.R (Kd.int .u8) 5 w3015 w.heap.size (fun k_ => some k_ ≠ (.slice Ao1007 t246.length co1007 : Value).ownBlock ∧ some k_ ≠ (.slice Ao1016 t267.length co1016 : Value).ownBlock ∧ some k_ ≠ (.slice Ao3007 t284.length co3007 : Value).ownBlock) (.slice Ao3014 t300.length co3014) t300) := ⟨(by rw [hw]; exact (by (with_reducible repeat (first | apply Kd.R_alloc | apply Kd.R_drewN | apply Kd.R_drew)); exact Kd.R_mono (Kd.R_step (Kd.R_types HO302.out BK304.out (by decide)) (fun _ hk _ => far12 hk.2)) (fun _ hk => ⟨hk.1.1.1.2, ⟨hk.1.1.2, hk.1.2⟩⟩)))⟩; have n7_ : Aside0 (w3015.heap[gb250]? = some (.cells #[.int .i64 t233, .int .i64 t234, .int .i64 t235, .int .i64 t236, .int .i64 t237, .int .i64 t238, .int .i64 t239, .bool t240, .int .i64 t241, .bool t242, .slice Ao1006 t243.length co1006, .slice Ao1007 t246.length co1007] 25 (0, 0))) := ⟨(by rw [hw]; exact (by refine (far12 NB250_304.out).trans ?_; (with_reducible repeat (first | refine blk_drewN ?_ _ | refine blk_drew ?_ | refine blk_alloc ?_ _)); exact BK250.out))⟩; have n8_ : Aside0 (w3015.heap[gb271]? = some (.cells #[.int .i64 t254, .int .i64 t255, .int .i64 t256, .int .i64 t257, .int .i64 t258, .int .i64 t259, .int .i64 t260, .bool t261, .int .i64 t262, .bool t263, .slice Ao1015 t264.length co1015, .slice Ao1016 t267.length co1016] 25 (0, 0))) := ⟨(by rw [hw]; exact (by refine (far12 NB271_304.out).trans ?_; (with_reducible repeat (first | refine blk_drewN ?_ _ | refine blk_drew ?_ | refine blk_alloc ?_ _)); exact BK271.out))⟩; have n9_ : Aside0 (w3015.heap[gb304]? = some (.cells #[.int .i64 t287, .int .i64 t288, .int .i64 t289, .int .i64 t290, .int .i64 t291, .int .i64 t292, .int .i64 t293, .bool t294, .int .i64 t295, .bool t296, .slice Ao3013 t297.length co3013, .slice Ao3014 t300.length co3014] 25 (0, 0))) := ⟨(by rw [hw]; exact (by apply set12; (with_reducible repeat (first | refine blk_drewN ?_ _ | refine blk_drew ?_ | refine blk_alloc ?_ _)); exact BK304.out))⟩; have n10_ : Aside0 (Below w.heap.size w w3015) := ⟨(by rw [hw]; exact wB)⟩; clear hw; clear HO_251010; clear HO_251011; clear HO_272010; clear HO_272011; clear HO286; clear HO299; clear HO302; clear BK250; clear BK271; clear BK304; clear HB; have HO_251010 := n0_; have HO_251011 := n1_; have HO_272010 := n2_; have HO_272011 := n3_; have HO286 := n4_; have HO299 := n5_; have HO302 := n6_; have BK250 := n7_; have BK271 := n8_; have BK304 := n9_; have HB := n10_; clear n0_ n1_ n2_ n3_ n4_ n5_ n6_ n7_ n8_ n9_ n10_))
 (try simp only [Act.put, List.setIfInBounds_toArray, List.set_cons_zero, List.set_cons_succ])
 go_cut [94] (fun v94 wc => ∃ (kq : Nat) (x94_2013 : Bool), v94 = .bool x94_2013 ∧ Aside0 (laws_FnExactDecodeSegment.j2 kq t280 x94_2013 t254 t255 t256 t257 t258 t259 t260 t261 t262 t263 t281 t282 = some r) ∧ Aside0 (kq ≤ kj1024) ∧ Aside0 (Kd.R k60 60 wc w.heap.size (fun k_ => some k_ ≠ ((.slice Ao1015 t264.length co1015) : Value).ownBlock ∧ some k_ ≠ ((.slice Ao3013 t297.length co3013) : Value).ownBlock) (.slice Ao1006 t243.length co1006) t243) ∧ Aside0 (Kd.R (Kd.int .u8) 5 wc w.heap.size (fun k_ => some k_ ≠ ((.slice Ao1016 t267.length co1016) : Value).ownBlock ∧ some k_ ≠ ((.slice Ao3014 t300.length co3014) : Value).ownBlock) (.slice Ao1007 t246.length co1007) t246) ∧ Aside0 (Kd.R k60 60 wc w.heap.size (fun k_ => some k_ ≠ ((.slice Ao1006 t243.length co1006) : Value).ownBlock ∧ some k_ ≠ ((.slice Ao3013 t297.length co3013) : Value).ownBlock) (.slice Ao1015 t264.length co1015) t281) ∧ Aside0 (Kd.R (Kd.int .u8) 5 wc w.heap.size (fun k_ => some k_ ≠ ((.slice Ao1007 t246.length co1007) : Value).ownBlock ∧ some k_ ≠ ((.slice Ao3014 t300.length co3014) : Value).ownBlock) (.slice Ao1016 t267.length co1016) t282) ∧ Aside0 (Kd.R k60 60 wc w.heap.size (fun k_ => some k_ ≠ ((.slice Ao1006 t243.length co1006) : Value).ownBlock ∧ some k_ ≠ ((.slice Ao1015 t264.length co1015) : Value).ownBlock) (.slice Ao3013 t297.length co3013) t297) ∧ Aside0 (Kd.R (Kd.int .u8) 5 wc w.heap.size (fun k_ => some k_ ≠ ((.slice Ao1007 t246.length co1007) : Value).ownBlock ∧ some k_ ≠ ((.slice Ao1016 t267.length co1016) : Value).ownBlock) (.slice Ao3014 t300.length co3014) t300) ∧ Aside0 (wc.heap[gb250]? = some (.cells #[.int .i64 t233, .int .i64 t234, .int .i64 t235, .int .i64 t236, .int .i64 t237, .int .i64 t238, .int .i64 t239, .bool t240, .int .i64 t241, .bool t242, (.slice Ao1006 t243.length co1006), (.slice Ao1007 t246.length co1007)] 25 (0, 0))) ∧ Aside0 (wc.heap[gb271]? = some (.cells #[.int .i64 t254, .int .i64 t255, .int .i64 t256, .int .i64 t257, .int .i64 t258, .int .i64 t259, .int .i64 t260, .bool t261, .int .i64 t262, .bool t263, (.slice Ao1015 t264.length co1015), (.slice Ao1016 t267.length co1016)] 25 (0, 0))) ∧ Aside0 (wc.heap[gb304]? = some (.cells #[.int .i64 t287, .int .i64 t288, .int .i64 t289, .int .i64 t290, .int .i64 t291, .int .i64 t292, .int .i64 t293, .bool t294, .int .i64 t295, .bool t296, (.slice Ao3013 t297.length co3013), (.slice Ao3014 t300.length co3014)] 25 (0, 0))) ∧ Aside0 (Below w.heap.size w wc))
 case first => (
 have H := HC2014.out
 clear HC2014
 replace H := Option.bind_eq_some_iff.mp H
 obtain ⟨t305, A30160, H⟩ := H
 have A3016 := Aside0.mk A30160
 clear A30160
 by_cases c3017 : t305 = true
 subst c3017
 have H1 : (laws_FnExactDecodeSegment.j2 kj1024 t280 (t303 != t249) t254 t255 t256 t257 t258 t259 t260 t261 t262 t263 t281 t282) = some r := by rw [if_pos rfl] at H; exact H
 clear H
 have H := H1
 clear H1
 have H' := Aside0.mk H
 clear H
 rotate_left
 replace c3017 := Bool.eq_false_iff.mpr c3017
 subst c3017
 have H1 : (laws_FnExactDecodeSegment.j2 kj1024 t280 true t254 t255 t256 t257 t258 t259 t260 t261 t262 t263 t281 t282) = some r := by rw [if_neg (show ¬ (false = true) by decide)] at H; exact H
 clear H
 have H := H1
 clear H1
 have H' := Aside0.mk H
 clear H
 rotate_left
 all_goals (
 have hnb4001 := NB304_250.out
 have hnc4001 := NB250_304.out
 have hnb4002 := NB304_271.out
 have hnc4002 := NB271_304.out
 obtain ⟨⟨hcz4003_0, hcz4003_1, hcz4003_2, hcz4003_3, hcz4003_4, hcz4003_5, hcz4003_6, hcz4003_7, hcz4003_8, hcz4003_9, hcz4003_10, hcz4003_11⟩, hfz4003_0, hfz4003_1, hfz4003_2, hfz4003_3, hfz4003_4, hfz4003_5, hfz4003_6, hfz4003_7, hfz4003_8, hfz4003_9, hfz4003_10, hfz4003_11⟩ := cells12 BK304.out
 have hnb4004 := NB250_271.out
 have hnc4004 := NB271_250.out
 obtain ⟨⟨hcz4005_0, hcz4005_1, hcz4005_2, hcz4005_3, hcz4005_4, hcz4005_5, hcz4005_6, hcz4005_7, hcz4005_8, hcz4005_9, hcz4005_10, hcz4005_11⟩, hfz4005_0, hfz4005_1, hfz4005_2, hfz4005_3, hfz4005_4, hfz4005_5, hfz4005_6, hfz4005_7, hfz4005_8, hfz4005_9, hfz4005_10, hfz4005_11⟩ := cells12 BK250.out
 go_wp2_with (first | ((with_reducible refine gate_callee (f := 8) rfl ?_); refine goesL_ (some 88) rfl rfl Try.func8 (by kernel_rfl) rfl #[.agg #[.int .i64 t287, .int .i64 t288, .int .i64 t289, .int .i64 t290, .int .i64 t291, .int .i64 t292, .int .i64 t293, .bool t294, .int .i64 t295, .bool t296, .slice Ao3013 t297.length co3013, .slice Ao3014 t300.length co3014], .agg #[.int .i64 t233, .int .i64 t234, .int .i64 t235, .int .i64 t236, .int .i64 t237, .int .i64 t238, .int .i64 t239, .bool t240, .int .i64 t241, .bool t242, .slice Ao1006 t243.length co1006, .slice Ao1007 t246.length co1007]] rfl wT ?_; (with_reducible refine (laws_eqSegment.calls kj1024 t287 t288 t289 t290 t291 t292 t293 t294 t295 t296 _ _ t297 _ _ t300 t233 t234 t235 t236 t237 t238 t239 t240 t241 t242 _ _ t243 _ _ t246 _ _ ?side1 ?side2 ?side3 ?side4 ?side5 ?side6 ?side7 ?side8 A3016.out).mono ?_); (case side1 => exact Ch HO299); (case side2 => exact (Kd.R_reads' HO299.out).2.1); (case side3 => exact Ch HO302); (case side4 => exact (Kd.R_reads' HO302.out).2.1); (case side5 => exact Ch HO_251010); (case side6 => exact (Kd.R_reads' HO_251010.out).2.1); (case side7 => exact Ch HO_251011); (case side8 => exact (Kd.R_reads' HO_251011.out).2.1); rintro e w4006 ⟨rfl, hb⟩; refine ⟨_, rfl, ?_⟩; have n0_ := Aside0.mk (Kd.R_below (Rh HO_251010) hb); have n1_ := Aside0.mk (Kd.R_below (Rh HO_251011) hb); have n2_ := Aside0.mk (Kd.R_below (Rh HO_272010) hb); have n3_ := Aside0.mk (Kd.R_below (Rh HO_272011) hb); have n4_ := Aside0.mk (Kd.R_below (Rh HO286) hb); have n5_ := Aside0.mk (Kd.R_below (Rh HO299) hb); have n6_ := Aside0.mk (Kd.R_below (Rh HO302) hb); have n7_ := Aside0.mk (blk_below (Bh BK250) hb); have n8_ := Aside0.mk (blk_below (Bh BK271) hb); have n9_ := Aside0.mk (blk_below (Bh BK304) hb); have n10_ := Aside0.mk (below_step wB hb); clear HO_251010; clear HO_251011; clear HO_272010; clear HO_272011; clear HO286; clear HO299; clear HO302; clear BK250; clear BK271; clear BK304; clear HB; have HO_251010 := n0_; have HO_251011 := n1_; have HO_272010 := n2_; have HO_272011 := n3_; have HO286 := n4_; have HO299 := n5_; have HO302 := n6_; have BK250 := n7_; have BK271 := n8_; have BK304 := n9_; have HB := n10_; clear n0_ n1_ n2_ n3_ n4_ n5_ n6_ n7_ n8_ n9_ n10_; (try clear hb); (try clear hb2); (try clear hk); (try clear hi)))
 go_meet
 )
 {
 case rel => exact ⟨_, ((t303 != t249)), (by first | rfl | (simp; done) | (simp [*]; done)), H', ⟨by have := HJ8.out; have := HJ1024.out; first | omega | exact Nat.le_refl _⟩, ⟨Rh HO_251010⟩, ⟨Kd.R_mono (Rh HO_251011) (fun _ hk => ⟨hk.1, hk.2.2⟩)⟩, ⟨Rh HO_272010⟩, ⟨Kd.R_mono (Rh HO_272011) (fun _ hk => ⟨hk.1, hk.2.2⟩)⟩, ⟨Rh HO299⟩, ⟨Kd.R_mono (Rh HO302) (fun _ hk => ⟨hk.1, hk.2.1⟩)⟩, ⟨Bh BK250⟩, ⟨Bh BK271⟩, ⟨Bh BK304⟩, ⟨wB⟩⟩
 }
 {
 case rel => exact ⟨_, (true), (by first | rfl | (simp; done) | (simp [*]; done)), H', ⟨by have := HJ8.out; have := HJ1024.out; first | omega | exact Nat.le_refl _⟩, ⟨Rh HO_251010⟩, ⟨Kd.R_mono (Rh HO_251011) (fun _ hk => ⟨hk.1, hk.2.2⟩)⟩, ⟨Rh HO_272010⟩, ⟨Kd.R_mono (Rh HO_272011) (fun _ hk => ⟨hk.1, hk.2.2⟩)⟩, ⟨Rh HO299⟩, ⟨Kd.R_mono (Rh HO302) (fun _ hk => ⟨hk.1, hk.2.1⟩)⟩, ⟨Bh BK250⟩, ⟨Bh BK271⟩, ⟨Bh BK304⟩, ⟨wB⟩⟩
 }
 )
 case rest => (
 clear HC2014
 try clear c0
 try clear c4
 try clear c4b0
 try clear c4b1
 try clear c1019
 try clear c1020
 try clear c1023
 try clear c2004
 try clear c2004b0
 try clear c2006
 try clear c2007
 try clear c2010
 try clear c2010b0
 try clear c2011
 try clear c2011b0
 try clear c2011b1
 try clear c3017
 try clear hcz1005_0 hcz1005_1 hcz1005_10 hcz1005_11 hcz1005_2 hcz1005_3 hcz1005_4 hcz1005_5 hcz1005_6 hcz1005_7 hcz1005_8 hcz1005_9 hfz1005_0 hfz1005_1 hfz1005_10 hfz1005_11 hfz1005_2 hfz1005_3 hfz1005_4 hfz1005_5 hfz1005_6 hfz1005_7 hfz1005_8 hfz1005_9
 try clear hcz1014_0 hcz1014_1 hcz1014_10 hcz1014_11 hcz1014_2 hcz1014_3 hcz1014_4 hcz1014_5 hcz1014_6 hcz1014_7 hcz1014_8 hcz1014_9 hfz1014_0 hfz1014_1 hfz1014_10 hfz1014_11 hfz1014_2 hfz1014_3 hfz1014_4 hfz1014_5 hfz1014_6 hfz1014_7 hfz1014_8 hfz1014_9
 try clear hcz2002_0 hcz2002_1 hcz2002_10 hcz2002_11 hcz2002_2 hcz2002_3 hcz2002_4 hcz2002_5 hcz2002_6 hcz2002_7 hcz2002_8 hcz2002_9 hfz2002_0 hfz2002_1 hfz2002_10 hfz2002_11 hfz2002_2 hfz2002_3 hfz2002_4 hfz2002_5 hfz2002_6 hfz2002_7 hfz2002_8 hfz2002_9
 try clear hcz2003_0 hcz2003_1 hcz2003_10 hcz2003_11 hcz2003_2 hcz2003_3 hcz2003_4 hcz2003_5 hcz2003_6 hcz2003_7 hcz2003_8 hcz2003_9 hfz2003_0 hfz2003_1 hfz2003_10 hfz2003_11 hfz2003_2 hfz2003_3 hfz2003_4 hfz2003_5 hfz2003_6 hfz2003_7 hfz2003_8 hfz2003_9
 try clear hcz3002_0 hcz3002_1 hcz3002_10 hcz3002_11 hcz3002_2 hcz3002_3 hcz3002_4 hcz3002_5 hcz3002_6 hcz3002_7 hcz3002_8 hcz3002_9 hfz3002_0 hfz3002_1 hfz3002_10 hfz3002_11 hfz3002_2 hfz3002_3 hfz3002_4 hfz3002_5 hfz3002_6 hfz3002_7 hfz3002_8 hfz3002_9
 try clear hcz3003_0 hcz3003_1 hcz3003_10 hcz3003_11 hcz3003_2 hcz3003_3 hcz3003_4 hcz3003_5 hcz3003_6 hcz3003_7 hcz3003_8 hcz3003_9 hfz3003_0 hfz3003_1 hfz3003_10 hfz3003_11 hfz3003_2 hfz3003_3 hfz3003_4 hfz3003_5 hfz3003_6 hfz3003_7 hfz3003_8 hfz3003_9
 try clear hcz3004_0 hcz3004_1 hcz3004_10 hcz3004_11 hcz3004_2 hcz3004_3 hcz3004_4 hcz3004_5 hcz3004_6 hcz3004_7 hcz3004_8 hcz3004_9 hfz3004_0 hfz3004_1 hfz3004_10 hfz3004_11 hfz3004_2 hfz3004_3 hfz3004_4 hfz3004_5 hfz3004_6 hfz3004_7 hfz3004_8 hfz3004_9
 try clear hcz3012_0 hcz3012_1 hcz3012_10 hcz3012_11 hcz3012_2 hcz3012_3 hcz3012_4 hcz3012_5 hcz3012_6 hcz3012_7 hcz3012_8 hcz3012_9 hfz3012_0 hfz3012_1 hfz3012_10 hfz3012_11 hfz3012_2 hfz3012_3 hfz3012_4 hfz3012_5 hfz3012_6 hfz3012_7 hfz3012_8 hfz3012_9
 try clear hcz4003_0 hcz4003_1 hcz4003_10 hcz4003_11 hcz4003_2 hcz4003_3 hcz4003_4 hcz4003_5 hcz4003_6 hcz4003_7 hcz4003_8 hcz4003_9 hfz4003_0 hfz4003_1 hfz4003_10 hfz4003_11 hfz4003_2 hfz4003_3 hfz4003_4 hfz4003_5 hfz4003_6 hfz4003_7 hfz4003_8 hfz4003_9
 try clear hcz4005_0 hcz4005_1 hcz4005_10 hcz4005_11 hcz4005_2 hcz4005_3 hcz4005_4 hcz4005_5 hcz4005_6 hcz4005_7 hcz4005_8 hcz4005_9 hfz4005_0 hfz4005_1 hfz4005_10 hfz4005_11 hfz4005_2 hfz4005_3 hfz4005_4 hfz4005_5 hfz4005_6 hfz4005_7 hfz4005_8 hfz4005_9
 obtain ⟨kq, x94_2013, rfl, HA, HJ2013, HO_251010, HO_251011, HO_272010, HO_272011, HO_305010, HO_305011, BK250, BK271, BK304, HB⟩ := hcut
 have hl272010_2013 := (Kd.R_reads' HO_272010.out).1
 rw [hl272010_2013] at HO_272010
 (try simp only [hl272010_2013])
 (try simp only [hl272010_2013] at BK250)
 (try simp only [hl272010_2013] at BK271)
 (try simp only [hl272010_2013] at BK304)
 (try simp only [hl272010_2013] at HO_251010)
 (try simp only [hl272010_2013] at HO_251011)
 (try simp only [hl272010_2013] at HO_272011)
 (try simp only [hl272010_2013] at HO_305010)
 (try simp only [hl272010_2013] at HO_305011)
 have hl272011_2013 := (Kd.R_reads' HO_272011.out).1
 rw [hl272011_2013] at HO_272011
 (try simp only [hl272011_2013])
 (try simp only [hl272011_2013] at BK250)
 (try simp only [hl272011_2013] at BK271)
 (try simp only [hl272011_2013] at BK304)
 (try simp only [hl272011_2013] at HO_251010)
 (try simp only [hl272011_2013] at HO_251011)
 (try simp only [hl272011_2013] at HO_272010)
 (try simp only [hl272011_2013] at HO_305010)
 (try simp only [hl272011_2013] at HO_305011)
 cases kq with
 | zero => exact absurd HA.out (by simp [laws_FnExactDecodeSegment.j2])
 | succ kj2013 => {
 have H := HA.out
 clear HA
 simp only [laws_FnExactDecodeSegment.j2] at H
 by_cases c3018 : x94_2013 = true
 subst c3018
 have H1 : (some false) = some r := by rw [if_pos rfl] at H; exact H
 clear H
 have H := H1
 clear H1
 obtain rfl := Option.some.inj H
 rotate_left
 replace c3018 := Bool.eq_false_iff.mpr c3018
 subst c3018
 have H1 : ((laws_heldSegment.f kj2013 t254 t255 t256 t257 t258 t259 t260 t261 t262 t263 t281 t282 1).bind fun t306 => (if t306 < 0 then (some false) else (if t306 = t280 then (some true) else (some false)))) = some r := by rw [if_neg (show ¬ (false = true) by decide)] at H; exact H
 clear H
 have H := H1
 clear H1
 replace H := Option.bind_eq_some_iff.mp H
 obtain ⟨t306, A30190, H⟩ := H
 have A3019 := Aside0.mk A30190
 clear A30190
 by_cases c3020 : t306 < 0
 rw [if_pos c3020] at H
 have c3020b0 : decide (t306 < 0) = true := decide_eq_true c3020
 clear c3020
 obtain rfl := Option.some.inj H
 rotate_left
 rw [if_neg c3020] at H
 have c3020b0 : decide (t306 < 0) = false := decide_eq_false c3020
 clear c3020
 by_cases c3021 : t306 = t280
 rw [if_pos c3021] at H
 have c3021b0 : (t306 == t280) = true := beq_iff_eq.mpr c3021
 have c3021b1 : (t306 != t280) = false := bne_eq_false_iff_eq.mpr c3021
 clear c3021
 obtain rfl := Option.some.inj H
 rotate_left
 rw [if_neg c3021] at H
 have c3021b0 : (t306 == t280) = false := beq_eq_false_iff_ne.mpr c3021
 have c3021b1 : (t306 != t280) = true := bne_iff_ne.mpr c3021
 obtain rfl := Option.some.inj H
 rotate_left
 {
 go_wp2
 go_ret
 exact ⟨by first | rfl | (simp [errW_none, errW_some] <;> rfl) | (simp [*, errW_none, errW_some] <;> rfl), wB⟩
 }
 all_goals (
 have hnb4001 := NB271_250.out
 have hnc4001 := NB250_271.out
 have hnb4002 := NB271_304.out
 have hnc4002 := NB304_271.out
 obtain ⟨⟨hcz4003_0, hcz4003_1, hcz4003_2, hcz4003_3, hcz4003_4, hcz4003_5, hcz4003_6, hcz4003_7, hcz4003_8, hcz4003_9, hcz4003_10, hcz4003_11⟩, hfz4003_0, hfz4003_1, hfz4003_2, hfz4003_3, hfz4003_4, hfz4003_5, hfz4003_6, hfz4003_7, hfz4003_8, hfz4003_9, hfz4003_10, hfz4003_11⟩ := cells12 BK271.out
 go_wp2_with (first | ((with_reducible refine gate_callee (f := 12) rfl ?_); refine goesL_ (some 97) rfl rfl Try.func12 (by kernel_rfl) rfl #[.agg #[.int .i64 t254, .int .i64 t255, .int .i64 t256, .int .i64 t257, .int .i64 t258, .int .i64 t259, .int .i64 t260, .bool t261, .int .i64 t262, .bool t263, .slice Ao1015 t281.length co1015, .slice Ao1016 t282.length co1016], .int .i64 1] rfl wT ?_; (with_reducible refine (laws_heldSegment.calls kj2013 t254 t255 t256 t257 t258 t259 t260 t261 t262 t263 _ _ t281 _ _ t282 1 t306 _ ?side1 ?side2 ?side3 ?side4 A3019.out).mono ?_); (case side1 => exact Ch HO_272010); (case side2 => exact (Kd.R_reads' HO_272010.out).2.1); (case side3 => exact Ch HO_272011); (case side4 => exact (Kd.R_reads' HO_272011.out).2.1); rintro e w4004 ⟨rfl, hb⟩; refine ⟨_, rfl, ?_⟩; have n0_ := Aside0.mk (Kd.R_below (Rh HO_251010) hb); have n1_ := Aside0.mk (Kd.R_below (Rh HO_251011) hb); have n2_ := Aside0.mk (Kd.R_below (Rh HO_272010) hb); have n3_ := Aside0.mk (Kd.R_below (Rh HO_272011) hb); have n4_ := Aside0.mk (Kd.R_below (Rh HO_305010) hb); have n5_ := Aside0.mk (Kd.R_below (Rh HO_305011) hb); have n6_ := Aside0.mk (blk_below (Bh BK250) hb); have n7_ := Aside0.mk (blk_below (Bh BK271) hb); have n8_ := Aside0.mk (blk_below (Bh BK304) hb); have n9_ := Aside0.mk (below_step wB hb); clear HO_251010; clear HO_251011; clear HO_272010; clear HO_272011; clear HO_305010; clear HO_305011; clear BK250; clear BK271; clear BK304; clear HB; have HO_251010 := n0_; have HO_251011 := n1_; have HO_272010 := n2_; have HO_272011 := n3_; have HO_305010 := n4_; have HO_305011 := n5_; have BK250 := n6_; have BK271 := n7_; have BK304 := n8_; have HB := n9_; clear n0_ n1_ n2_ n3_ n4_ n5_ n6_ n7_ n8_ n9_; (try clear hb); (try clear hb2); (try clear hk); (try clear hi)))
 go_ret
 exact ⟨by first | rfl | (simp [errW_none, errW_some] <;> rfl) | (simp [*, errW_none, errW_some] <;> rfl), wB⟩
 )
 }
 )
 }
 {
 go_wp2_with (first | ((with_reducible refine gate_callee (f := 11) rfl ?_); refine goesL_ (some 69) rfl rfl Try.func11 (by kernel_rfl) rfl #[.agg #[.int .i64 t254, .int .i64 t255, .int .i64 t256, .int .i64 t257, .int .i64 t258, .int .i64 t259, .int .i64 t260, .bool t261, .int .i64 t262, .bool t263, .slice Ao1015 t264.length co1015, .slice Ao1016 t267.length co1016], .int .i64 1] rfl wT ?_; (with_reducible refine (laws_markSegment.calls kj1024 t254 t255 t256 t257 t258 t259 t260 t261 t262 t263 (fun k_ => some k_ = (.slice Ao1015 t264.length co1015 : Value).ownBlock) (.slice Ao1015 t264.length co1015) t264 (fun k_ => some k_ = (.slice Ao1016 t267.length co1016 : Value).ownBlock) (.slice Ao1016 t267.length co1016) t267 1 t280 t281 t282 w _ ?side1 ?side2 ?side3 A2008.out).mono ?_); (case side1 => repeat (first | (with_reducible first | exact HB.out | apply below_alloc | apply pw_below_drewN | apply below_drew1 | refine below_set ?_ GE250.out | refine below_set ?_ GE271.out) | exact HB.out)); (case side2 => exact Kd.R_tight rfl HO_272010.out); (case side3 => exact Kd.R_tight rfl HO_272011.out); rintro e w3003 ⟨rfl, hy0, hy1, hb, hkp⟩; refine ⟨_, rfl, ?_⟩; have n0_ := Aside0.mk (Kd.R_mono (ok' := fun k_ => some k_ ≠ (.slice Ao1015 t264.length co1015 : Value).ownBlock) (Kd.R_keptB ((Kd.R_apart' HO_251010.out (Kd.R_typed HO_272011.out) (by decide))) hkp (fun k_ hk_ hs_ => Or.elim hs_ (fun e_ => (hk_.1) e_) (fun e_ => (hk_.2) e_))) (fun k_ hk_ => hk_.1.1)); have n1_ := Aside0.mk (Kd.R_mono (ok' := fun k_ => some k_ ≠ (.slice Ao1016 t267.length co1016 : Value).ownBlock) (Kd.R_keptB ((Kd.R_apart' HO_251011.out (Kd.R_typed HO_272010.out) (by decide))) hkp (fun k_ hk_ hs_ => Or.elim hs_ (fun e_ => (hk_.2) e_) (fun e_ => (hk_.1) e_))) (fun k_ hk_ => hk_.1.1)); have n2_ := Aside0.mk (Kd.R_reok rfl hy0 (fun k_ e_ => HO_272010.out.1 k_ e_)); have n3_ := Aside0.mk (Kd.R_reok rfl hy1 (fun k_ e_ => HO_272011.out.1 k_ e_)); have n4_ := Aside0.mk (blk_kept (Bh BK250) hkp (fun hs_ => Or.elim hs_ (fun e_ => (fun e_ => (Kd.R_ne HO_272010.out BK250.out (by decide)) e_) e_) (fun e_ => (fun e_ => (Kd.R_ne HO_272011.out BK250.out (by decide)) e_) e_))); have n5_ := Aside0.mk (blk_kept (Bh BK271) hkp (fun hs_ => Or.elim hs_ (fun e_ => (fun e_ => (Kd.R_ne HO_272010.out BK271.out (by decide)) e_) e_) (fun e_ => (fun e_ => (Kd.R_ne HO_272011.out BK271.out (by decide)) e_) e_))); have n6_ := Aside0.mk (hb); clear HO_251010; clear HO_251011; clear HO_272010; clear HO_272011; clear BK250; clear BK271; clear HB; have HO_251010 := n0_; have HO_251011 := n1_; have HO_272010 := n2_; have HO_272011 := n3_; have BK250 := n4_; have BK271 := n5_; have HB := n6_; clear n0_ n1_ n2_ n3_ n4_ n5_ n6_; (try clear hb); (try clear hkp); (try clear hy0); (try clear hy1); obtain ⟨⟨hcz3004_0, hcz3004_1, hcz3004_2, hcz3004_3, hcz3004_4, hcz3004_5, hcz3004_6, hcz3004_7, hcz3004_8, hcz3004_9, hcz3004_10, hcz3004_11⟩, hfz3004_0, hfz3004_1, hfz3004_2, hfz3004_3, hfz3004_4, hfz3004_5, hfz3004_6, hfz3004_7, hfz3004_8, hfz3004_9, hfz3004_10, hfz3004_11⟩ := cells12 BK271.out) | ((with_reducible refine gate_callee (f := 12) rfl ?_); refine goesL_ (some 72) rfl rfl Try.func12 (by kernel_rfl) rfl #[.agg #[.int .i64 t254, .int .i64 t255, .int .i64 t256, .int .i64 t257, .int .i64 t258, .int .i64 t259, .int .i64 t260, .bool t261, .int .i64 t262, .bool t263, .slice Ao1015 t281.length co1015, .slice Ao1016 t282.length co1016], .int .i64 1] rfl (by (try simp only [List.map_toArray, List.map_cons, List.map_nil]); first | done | (rw [show t281.length = t264.length from (Kd.R_reads' HO_272010.out).1.symm, show t282.length = t267.length from (Kd.R_reads' HO_272011.out).1.symm] <;> rfl) | rfl | (simp only [List.length_drop, List.length_take]; rfl)) ?_; (with_reducible refine (laws_heldSegment.calls kj1024 t254 t255 t256 t257 t258 t259 t260 t261 t262 t263 _ _ t281 _ _ t282 1 t283 _ ?side1 ?side2 ?side3 ?side4 A2009.out).mono ?_); (case side1 => exact Ch HO_272010); (case side2 => rw [show t281.length = t264.length from (Kd.R_reads' HO_272010.out).1.symm]; exact (Kd.R_reads' HO_272010.out).2.1); (case side3 => exact Ch HO_272011); (case side4 => rw [show t282.length = t267.length from (Kd.R_reads' HO_272011.out).1.symm]; exact (Kd.R_reads' HO_272011.out).2.1); rintro e w3005 ⟨rfl, hb⟩; refine ⟨_, rfl, ?_⟩; have n0_ := Aside0.mk (Kd.R_below (Rh HO_251010) hb); have n1_ := Aside0.mk (Kd.R_below (Rh HO_251011) hb); have n2_ := Aside0.mk (Kd.R_below (Rh HO_272010) hb); have n3_ := Aside0.mk (Kd.R_below (Rh HO_272011) hb); have n4_ := Aside0.mk (blk_below (Bh BK250) hb); have n5_ := Aside0.mk (blk_below (Bh BK271) hb); have n6_ := Aside0.mk (below_step wB hb); clear HO_251010; clear HO_251011; clear HO_272010; clear HO_272011; clear BK250; clear BK271; clear HB; have HO_251010 := n0_; have HO_251011 := n1_; have HO_272010 := n2_; have HO_272011 := n3_; have BK250 := n4_; have BK271 := n5_; have HB := n6_; clear n0_ n1_ n2_ n3_ n4_ n5_ n6_; (try clear hb); (try clear hb2); (try clear hk); (try clear hi)))
 go_ret
 exact ⟨by first | rfl | (simp [errW_none, errW_some] <;> rfl) | (simp [*, errW_none, errW_some] <;> rfl), wB⟩
 }
 }
 )
 }
 {
 replace c1023 := Bool.eq_false_iff.mpr c1023
 subst c1023
 have H1 : (some false) = some r := by rw [if_neg (show ¬ (false = true) by decide)] at H; exact H
 clear H
 have H := H1
 clear H1
 obtain rfl := Option.some.inj H
 go_wp2_with (first | ((with_reducible refine gate_callee (f := 6) rfl ?_); refine goesL_ (some 48) rfl rfl Try.func6 (by kernel_rfl) rfl #[.slice A0 l0.length c0] rfl wT ?_; (with_reducible refine (laws_toByteS.calls kj8 _ _ l0 t273 _ ?side1 ?side2 A1021.out).mono ?_); (case side1 => exact Kd.C_below HR0.out wB); (case side2 => exact HC0.out); rintro e w2001 ⟨v274, rfl, ho0, hb⟩; refine ⟨_, rfl, ?_⟩; have n0_ := Aside0.mk (Kd.R_elder' (Rh HO_9) (Kd.R_base ho0) hb); have n1_ := Aside0.mk (Kd.R_below (Rh HO_251010) hb); have n2_ := Aside0.mk (Kd.R_elder' (Rh HO_251011) (Kd.R_base ho0) hb); have n3_ := Aside0.mk (Kd.R_below (Rh HO_272010) hb); have n4_ := Aside0.mk (Kd.R_elder' (Rh HO_272011) (Kd.R_base ho0) hb); have n5_ := Aside0.mk (Kd.R_lower (Kd.R_new' (Kd.R_new' (Kd.R_new' ho0 (Kd.R_lt (Rh HO_9))) (Kd.R_lt (Rh HO_251011))) (Kd.R_lt (Rh HO_272011))) (below_size wB)); have n6_ := Aside0.mk (blk_below (Bh BK250) hb); have n7_ := Aside0.mk (blk_below (Bh BK271) hb); have n8_ := Aside0.mk (below_step wB hb); clear HO_9; clear HO_251010; clear HO_251011; clear HO_272010; clear HO_272011; clear BK250; clear BK271; clear HB; have HO_9 := n0_; have HO_251010 := n1_; have HO_251011 := n2_; have HO_272010 := n3_; have HO_272011 := n4_; have HO275 := n5_; have BK250 := n6_; have BK271 := n7_; have HB := n8_; clear n0_ n1_ n2_ n3_ n4_ n5_ n6_ n7_ n8_; (try clear hb); (try clear hb2); (try clear hk); (try clear hi); (try clear ho0); obtain ⟨Ao2002, co2002, eo2002⟩ := Kd.R_slice HO275.out; subst eo2002) | ((with_reducible refine gate_callee (f := 9) rfl ?_); refine goesL_ (some 49) rfl rfl Try.func9 (by kernel_rfl) rfl #[.slice Ao1010 t251.length co1010, .slice Ao2002 t273.length co2002] rfl wT ?_; (with_reducible refine (laws_eqByteS.calls kj8 _ _ t251 _ _ t273 false _ ?side1 ?side2 ?side3 ?side4 A1022.out).mono ?_); (case side1 => exact Ch HO_9); (case side2 => exact (Kd.R_reads' HO_9.out).2.1); (case side3 => exact Ch HO275); (case side4 => exact (Kd.R_reads' HO275.out).2.1); rintro e w' ⟨rfl, ⟨nd, rfl⟩⟩; refine ⟨_, rfl, ?_⟩))
 go_ret
 exact ⟨by first | rfl | (simp [errW_none, errW_some] <;> rfl) | (simp [*, errW_none, errW_some] <;> rfl), wB⟩
 }
 }
 }
 )
 }

/-- THE ONE PURE STATEMENT of laws_FnExactDecodeSegment: yours. -/
def laws_FnExactDecodeSegment.Pure : Prop := ∀ (l0 : List Int) (a1 : Int) (a2 : Int), l0.length ≤ maxLen → l0.length * 1 ≤ 140737488351232 → (∀ x ∈ l0, (Lit.int .u8 x).wf = true) → (Lit.int .i64 a1).wf = true → (Lit.int .i64 a2).wf = true → ∃ k, laws_FnExactDecodeSegment.f k l0 a1 a2 = some true
theorem laws_FnExactDecodeSegment.walk (P : laws_FnExactDecodeSegment.Pure) (a0 : Option Addr) (len0 cap0 : Nat) (z0 : List Int) (a1 : Int) (a2 : Int) (w : World) (w0 : (a0 = none ∧ len0 = 0 ∧ cap0 = 0 ∧ z0 = []) ∨ ∃ x, a0 = some x ∧ len0 ≤ cap0 ∧ cap0 ≤ maxLen ∧ z0.length = cap0 ∧ (∀ i, i < z0.length → w.cell? (x.add i) = some (.int .u8 (z0.getD i 0))) ∧ ∀ n ∈ z0, (Lit.int .u8 n).wf = true) (y0 : len0 * 1 ≤ 140737488351232) (w1 : (Lit.int .i64 a1).wf = true) (w2 : (Lit.int .i64 a2).wf = true) :
 Calls Try.prog 3 #[.slice a0 len0 cap0, .int .i64 a1, .int .i64 a2] w fun e w' => e = .returned (.bool true) ∧ Below w.heap.size w w' := by
 obtain ⟨l0, rfl, hr0, hm0, hw0, hc0⟩ := ReadsInt.ofRowC w0
 obtain ⟨k, h⟩ := P l0 a1 a2 hm0 y0 hw0 w1 w2
 refine (laws_FnExactDecodeSegment.calls k _ _ l0 a1 a2 true w (Kd.C_of_reads (d := (0 : Int)) (h1 := fun _ => rfl) hr0) hc0 h).mono ?_
 rintro e w' ⟨rfl, hd⟩
 exact ⟨rfl, hd⟩

end Go.Proofs.Ytfllcmeakcbiaaa.PFnExactDecodeSegment
