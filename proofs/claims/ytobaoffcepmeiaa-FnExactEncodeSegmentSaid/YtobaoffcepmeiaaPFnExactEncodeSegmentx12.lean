-- Written for this claim by a program of this session (wip/mkprint.py: the print, turned at a few places). Not trusted: Lean checks it.
import Derived.Test.YtobaoffcepmeiaaPFnExactEncodeSegmentx0
import Derived.Test.YtobaoffcepmeiaaPFnExactEncodeSegmentx1
import Derived.Test.YtobaoffcepmeiaaPFnExactEncodeSegmentx2
import Derived.Test.YtobaoffcepmeiaaPFnExactEncodeSegmentx3
import Derived.Test.YtobaoffcepmeiaaPFnExactEncodeSegmentx7
import Derived.Test.YtobaoffcepmeiaaPFnExactEncodeSegmentx10
import Derived.Test.YtobaoffcepmeiaaPFnExactEncodeSegmentx11
namespace Go.Proofs.Ytobaoffcepmeiaa.PFnExactEncodeSegment
open Go.RowKit Go.Proofs.YtobaoffcepmeiaaW.PrintWords Go.Proofs.YtobaoffcepmeiaaW.PrintLast Go.Proofs.YtobaoffcepmeiaaW.PrintMore
attribute [local go_sem] max2_int min2_int max_two min_two max_three min_three max_four min_four   -- for this text's walks alone
set_option linter.unusedVariables false
set_option linter.unusedSimpArgs false

/-! ### laws_FnExactEncodeSegment: function 13 -/
mutual
def laws_FnExactEncodeSegment.j0 : Nat → Int → Int → List Int → Int → List Int → Int → Bool → Int → Int → Int → Int → Int → Int → Int → Bool → Int → Bool → List (S165) → List Int → Int → Int → Int → Int → Int → Int → Int → Bool → Int → Bool → List (S157) → List Int → Option (Bool)
  | 0, _, _, _, _, _, _, _, _, _, _, _, _, _, _, _, _, _, _, _, _, _, _, _, _, _, _, _, _, _, _, _ => none
  | k + 1, x1, x2, x8, x9, x11, x12, x48, x428000, x428001, x428002, x428003, x428004, x428005, x428006, x428007, x428008, x428009, x428010, x428011, x466000, x466001, x466002, x466003, x466004, x466005, x466006, x466007, x466008, x466009, x466010, x466011 => if x48 = true then (some false) else ((laws_toSegment.f k x428000 x428001 x428002 x428003 x428004 x428005 x428006 x428007 x428008 x428009 x428010 x428011).bind fun bt471 => ((laws_eqSegment.f k x466000 x466001 x466002 x466003 x466004 x466005 x466006 x466007 x466008 x466009 x466010 x466011 bt471.1 bt471.2.1 bt471.2.2.1 bt471.2.2.2.1 bt471.2.2.2.2.1 bt471.2.2.2.2.2.1 bt471.2.2.2.2.2.2.1 bt471.2.2.2.2.2.2.2.1 bt471.2.2.2.2.2.2.2.2.1 bt471.2.2.2.2.2.2.2.2.2.1 bt471.2.2.2.2.2.2.2.2.2.2.1 bt471.2.2.2.2.2.2.2.2.2.2.2).bind fun t487 => (if t487 = true then ((laws_markSegment.f k x466000 x466001 x466002 x466003 x466004 x466005 x466006 x466007 x466008 x466009 x466010 x466011 1).bind fun bt488 => (if bt488.1 < 0 then (laws_FnExactEncodeSegment.j1 k x1 x2 x8 x9 x11 true x428000 x428001 x428002 x428003 x428004 x428005 x428006 x428007 x428008 x428009 x428010 x428011) else ((laws_eqByteS.f k x11 x8).bind fun t491 => (if t491 = true then (laws_FnExactEncodeSegment.j1 k x1 x2 x8 x9 x11 (x12 != x9) x428000 x428001 x428002 x428003 x428004 x428005 x428006 x428007 x428008 x428009 x428010 x428011) else (laws_FnExactEncodeSegment.j1 k x1 x2 x8 x9 x11 true x428000 x428001 x428002 x428003 x428004 x428005 x428006 x428007 x428008 x428009 x428010 x428011))))) else (some false))))
def laws_FnExactEncodeSegment.j1 : Nat → Int → Int → List Int → Int → List Int → Bool → Int → Int → Int → Int → Int → Int → Int → Bool → Int → Bool → List (S165) → List Int → Option (Bool)
  | 0, _, _, _, _, _, _, _, _, _, _, _, _, _, _, _, _, _, _ => none
  | k + 1, x1, x2, x8, x9, x11, x69, x428000, x428001, x428002, x428003, x428004, x428005, x428006, x428007, x428008, x428009, x428010, x428011 => if x69 = true then (some false) else ((laws_markByteS.f k x11 1).bind fun bt492 => ((laws_heldByteS.f k bt492.2 1).bind fun t494 => (if t494 < 0 then (some false) else (if t494 = bt492.1 then ((laws_toSegment.f k x428000 x428001 x428002 x428003 x428004 x428005 x428006 x428007 x428008 x428009 x428010 x428011).bind fun bt495 => ((impl_EncodeSegment.f k bt495.1 bt495.2.1 bt495.2.2.1 bt495.2.2.2.1 bt495.2.2.2.2.1 bt495.2.2.2.2.2.1 bt495.2.2.2.2.2.2.1 bt495.2.2.2.2.2.2.2.1 bt495.2.2.2.2.2.2.2.2.1 bt495.2.2.2.2.2.2.2.2.2.1 bt495.2.2.2.2.2.2.2.2.2.2.1 bt495.2.2.2.2.2.2.2.2.2.2.2 x1 x2).bind fun bt511 => ((laws_eqByteS.f k bt511.1 x8).bind fun t515 => (if t515 = true then (laws_FnExactEncodeSegment.j2 k bt492.2 bt492.1 (bt511.2 != x9)) else (laws_FnExactEncodeSegment.j2 k bt492.2 bt492.1 true))))) else (some false)))))
def laws_FnExactEncodeSegment.j2 : Nat → List Int → Int → Bool → Option (Bool)
  | 0, _, _, _ => none
  | k + 1, x11, x14, x97 => if x97 = true then (some false) else ((laws_heldByteS.f k x11 1).bind fun t516 => (if t516 < 0 then (some false) else (if t516 = x14 then (some true) else (some false))))
end
def laws_FnExactEncodeSegment.f (k : Nat) (a0_0 : Int) (a0_1 : Int) (a0_2 : Int) (a0_3 : Int) (a0_4 : Int) (a0_5 : Int) (a0_6 : Int) (a0_7 : Bool) (a0_8 : Int) (a0_9 : Bool) (l0_10 : List (S165)) (l0_11 : List Int) (a1 : Int) (a2 : Int) : Option (Bool) := (laws_szSegment.f a0_0 a0_1 a0_2 a0_3 a0_4 a0_5 a0_6 a0_7 a0_8 a0_9 l0_10 l0_11 1048576).bind fun t428 => (if t428 < 0 then (some true) else ((laws_toSegment.f k a0_0 a0_1 a0_2 a0_3 a0_4 a0_5 a0_6 a0_7 a0_8 a0_9 l0_10 l0_11).bind fun bt429 => ((spec_EncodeSegment.f k bt429.1 bt429.2.1 bt429.2.2.1 bt429.2.2.2.1 bt429.2.2.2.2.1 bt429.2.2.2.2.2.1 bt429.2.2.2.2.2.2.1 bt429.2.2.2.2.2.2.2.1 bt429.2.2.2.2.2.2.2.2.1 bt429.2.2.2.2.2.2.2.2.2.1 bt429.2.2.2.2.2.2.2.2.2.2.1 bt429.2.2.2.2.2.2.2.2.2.2.2 a1 a2).bind fun bt445 => ((laws_toSegment.f k a0_0 a0_1 a0_2 a0_3 a0_4 a0_5 a0_6 a0_7 a0_8 a0_9 l0_10 l0_11).bind fun bt449 => ((impl_EncodeSegment.f k bt449.1 bt449.2.1 bt449.2.2.1 bt449.2.2.2.1 bt449.2.2.2.2.1 bt449.2.2.2.2.2.1 bt449.2.2.2.2.2.2.1 bt449.2.2.2.2.2.2.2.1 bt449.2.2.2.2.2.2.2.2.1 bt449.2.2.2.2.2.2.2.2.2.1 bt449.2.2.2.2.2.2.2.2.2.2.1 bt449.2.2.2.2.2.2.2.2.2.2.2 a1 a2).bind fun bt466 => ((laws_eqByteS.f k bt466.1 bt445.1).bind fun t470 => (if t470 = true then (laws_FnExactEncodeSegment.j0 k a1 a2 bt445.1 bt445.2 bt466.1 bt466.2 (bt466.2 != bt445.2) a0_0 a0_1 a0_2 a0_3 a0_4 a0_5 a0_6 a0_7 a0_8 a0_9 l0_10 l0_11 bt449.1 bt449.2.1 bt449.2.2.1 bt449.2.2.2.1 bt449.2.2.2.2.1 bt449.2.2.2.2.2.1 bt449.2.2.2.2.2.2.1 bt449.2.2.2.2.2.2.2.1 bt449.2.2.2.2.2.2.2.2.1 bt449.2.2.2.2.2.2.2.2.2.1 bt449.2.2.2.2.2.2.2.2.2.2.1 bt449.2.2.2.2.2.2.2.2.2.2.2) else (laws_FnExactEncodeSegment.j0 k a1 a2 bt445.1 bt445.2 bt466.1 bt466.2 true a0_0 a0_1 a0_2 a0_3 a0_4 a0_5 a0_6 a0_7 a0_8 a0_9 l0_10 l0_11 bt449.1 bt449.2.1 bt449.2.2.1 bt449.2.2.2.1 bt449.2.2.2.2.1 bt449.2.2.2.2.2.1 bt449.2.2.2.2.2.2.1 bt449.2.2.2.2.2.2.2.1 bt449.2.2.2.2.2.2.2.2.1 bt449.2.2.2.2.2.2.2.2.2.1 bt449.2.2.2.2.2.2.2.2.2.2.1 bt449.2.2.2.2.2.2.2.2.2.2.2))))))))
theorem laws_FnExactEncodeSegment.mono_l : ∀ k, (∀ y0 y1 y2 y3 y4 y5 y6 y7 y8 y9 y10 y11 y12 y13 y14 y15 y16 y17 y18 y19 y20 y21 y22 y23 y24 y25 y26 y27 y28 y29 y30, LeO (laws_FnExactEncodeSegment.j0 k y0 y1 y2 y3 y4 y5 y6 y7 y8 y9 y10 y11 y12 y13 y14 y15 y16 y17 y18 y19 y20 y21 y22 y23 y24 y25 y26 y27 y28 y29 y30) (laws_FnExactEncodeSegment.j0 (k + 1) y0 y1 y2 y3 y4 y5 y6 y7 y8 y9 y10 y11 y12 y13 y14 y15 y16 y17 y18 y19 y20 y21 y22 y23 y24 y25 y26 y27 y28 y29 y30)) ∧ (∀ y0 y1 y2 y3 y4 y5 y6 y7 y8 y9 y10 y11 y12 y13 y14 y15 y16 y17, LeO (laws_FnExactEncodeSegment.j1 k y0 y1 y2 y3 y4 y5 y6 y7 y8 y9 y10 y11 y12 y13 y14 y15 y16 y17) (laws_FnExactEncodeSegment.j1 (k + 1) y0 y1 y2 y3 y4 y5 y6 y7 y8 y9 y10 y11 y12 y13 y14 y15 y16 y17)) ∧ (∀ y0 y1 y2, LeO (laws_FnExactEncodeSegment.j2 k y0 y1 y2) (laws_FnExactEncodeSegment.j2 (k + 1) y0 y1 y2))
  | 0 => ⟨fun _ _ _ _ _ _ _ _ _ _ _ _ _ _ _ _ _ _ _ _ _ _ _ _ _ _ _ _ _ _ _ r h => by simp [laws_FnExactEncodeSegment.j0] at h, fun _ _ _ _ _ _ _ _ _ _ _ _ _ _ _ _ _ _ r h => by simp [laws_FnExactEncodeSegment.j1] at h, fun _ _ _ r h => by simp [laws_FnExactEncodeSegment.j2] at h⟩
  | k + 1 => by
    obtain ⟨ih0, ih1, ih2⟩ := laws_FnExactEncodeSegment.mono_l k
    refine ⟨?_, ?_, ?_⟩
    · intro y0 y1 y2 y3 y4 y5 y6 y7 y8 y9 y10 y11 y12 y13 y14 y15 y16 y17 y18 y19 y20 y21 y22 y23 y24 y25 y26 y27 y28 y29 y30
      unfold laws_FnExactEncodeSegment.j0
      repeat' first
      | (with_reducible exact ih0 _ _ _ _ _ _ _ _ _ _ _ _ _ _ _ _ _ _ _ _ _ _ _ _ _ _ _ _ _ _ _)
      | (with_reducible exact ih1 _ _ _ _ _ _ _ _ _ _ _ _ _ _ _ _ _ _)
      | (with_reducible exact ih2 _ _ _)
      | (with_reducible exact impl_EncodeSegment.mono _ _ _ _ _ _ _ _ _ _ _ _ _ _ _)
      | (with_reducible exact laws_eqByteS.mono _ _ _)
      | (with_reducible exact laws_eqSegment.mono _ _ _ _ _ _ _ _ _ _ _ _ _ _ _ _ _ _ _ _ _ _ _ _ _)
      | (with_reducible exact laws_heldByteS.mono _ _ _)
      | (with_reducible exact laws_markByteS.mono _ _ _)
      | (with_reducible exact laws_markSegment.mono _ _ _ _ _ _ _ _ _ _ _ _ _ _)
      | (with_reducible exact laws_toSegment.mono _ _ _ _ _ _ _ _ _ _ _ _ _)
      | (with_reducible exact spec_EncodeSegment.mono _ _ _ _ _ _ _ _ _ _ _ _ _ _ _)
      | (with_reducible exact LeO.refl _)
      | (with_reducible exact LeO.none _)
      | (with_reducible refine LeO.ite ?_ ?_)
      | (with_reducible refine LeO.bind ?_ (fun _ => ?_))
      | exact ih0 _ _ _ _ _ _ _ _ _ _ _ _ _ _ _ _ _ _ _ _ _ _ _ _ _ _ _ _ _ _ _
      | exact ih1 _ _ _ _ _ _ _ _ _ _ _ _ _ _ _ _ _ _
      | exact ih2 _ _ _
      | exact impl_EncodeSegment.mono _ _ _ _ _ _ _ _ _ _ _ _ _ _ _
      | exact laws_eqByteS.mono _ _ _
      | exact laws_eqSegment.mono _ _ _ _ _ _ _ _ _ _ _ _ _ _ _ _ _ _ _ _ _ _ _ _ _
      | exact laws_heldByteS.mono _ _ _
      | exact laws_markByteS.mono _ _ _
      | exact laws_markSegment.mono _ _ _ _ _ _ _ _ _ _ _ _ _ _
      | exact laws_toSegment.mono _ _ _ _ _ _ _ _ _ _ _ _ _
      | exact spec_EncodeSegment.mono _ _ _ _ _ _ _ _ _ _ _ _ _ _ _
      | exact LeO.none _
      | refine LeO.ite ?_ ?_
      | refine LeO.bind ?_ (fun _ => ?_)
    · intro y0 y1 y2 y3 y4 y5 y6 y7 y8 y9 y10 y11 y12 y13 y14 y15 y16 y17
      unfold laws_FnExactEncodeSegment.j1
      repeat' first
      | (with_reducible exact ih0 _ _ _ _ _ _ _ _ _ _ _ _ _ _ _ _ _ _ _ _ _ _ _ _ _ _ _ _ _ _ _)
      | (with_reducible exact ih1 _ _ _ _ _ _ _ _ _ _ _ _ _ _ _ _ _ _)
      | (with_reducible exact ih2 _ _ _)
      | (with_reducible exact impl_EncodeSegment.mono _ _ _ _ _ _ _ _ _ _ _ _ _ _ _)
      | (with_reducible exact laws_eqByteS.mono _ _ _)
      | (with_reducible exact laws_eqSegment.mono _ _ _ _ _ _ _ _ _ _ _ _ _ _ _ _ _ _ _ _ _ _ _ _ _)
      | (with_reducible exact laws_heldByteS.mono _ _ _)
      | (with_reducible exact laws_markByteS.mono _ _ _)
      | (with_reducible exact laws_markSegment.mono _ _ _ _ _ _ _ _ _ _ _ _ _ _)
      | (with_reducible exact laws_toSegment.mono _ _ _ _ _ _ _ _ _ _ _ _ _)
      | (with_reducible exact spec_EncodeSegment.mono _ _ _ _ _ _ _ _ _ _ _ _ _ _ _)
      | (with_reducible exact LeO.refl _)
      | (with_reducible exact LeO.none _)
      | (with_reducible refine LeO.ite ?_ ?_)
      | (with_reducible refine LeO.bind ?_ (fun _ => ?_))
      | exact ih0 _ _ _ _ _ _ _ _ _ _ _ _ _ _ _ _ _ _ _ _ _ _ _ _ _ _ _ _ _ _ _
      | exact ih1 _ _ _ _ _ _ _ _ _ _ _ _ _ _ _ _ _ _
      | exact ih2 _ _ _
      | exact impl_EncodeSegment.mono _ _ _ _ _ _ _ _ _ _ _ _ _ _ _
      | exact laws_eqByteS.mono _ _ _
      | exact laws_eqSegment.mono _ _ _ _ _ _ _ _ _ _ _ _ _ _ _ _ _ _ _ _ _ _ _ _ _
      | exact laws_heldByteS.mono _ _ _
      | exact laws_markByteS.mono _ _ _
      | exact laws_markSegment.mono _ _ _ _ _ _ _ _ _ _ _ _ _ _
      | exact laws_toSegment.mono _ _ _ _ _ _ _ _ _ _ _ _ _
      | exact spec_EncodeSegment.mono _ _ _ _ _ _ _ _ _ _ _ _ _ _ _
      | exact LeO.none _
      | refine LeO.ite ?_ ?_
      | refine LeO.bind ?_ (fun _ => ?_)
    · intro y0 y1 y2
      unfold laws_FnExactEncodeSegment.j2
      repeat' first
      | (with_reducible exact ih0 _ _ _ _ _ _ _ _ _ _ _ _ _ _ _ _ _ _ _ _ _ _ _ _ _ _ _ _ _ _ _)
      | (with_reducible exact ih1 _ _ _ _ _ _ _ _ _ _ _ _ _ _ _ _ _ _)
      | (with_reducible exact ih2 _ _ _)
      | (with_reducible exact impl_EncodeSegment.mono _ _ _ _ _ _ _ _ _ _ _ _ _ _ _)
      | (with_reducible exact laws_eqByteS.mono _ _ _)
      | (with_reducible exact laws_eqSegment.mono _ _ _ _ _ _ _ _ _ _ _ _ _ _ _ _ _ _ _ _ _ _ _ _ _)
      | (with_reducible exact laws_heldByteS.mono _ _ _)
      | (with_reducible exact laws_markByteS.mono _ _ _)
      | (with_reducible exact laws_markSegment.mono _ _ _ _ _ _ _ _ _ _ _ _ _ _)
      | (with_reducible exact laws_toSegment.mono _ _ _ _ _ _ _ _ _ _ _ _ _)
      | (with_reducible exact spec_EncodeSegment.mono _ _ _ _ _ _ _ _ _ _ _ _ _ _ _)
      | (with_reducible exact LeO.refl _)
      | (with_reducible exact LeO.none _)
      | (with_reducible refine LeO.ite ?_ ?_)
      | (with_reducible refine LeO.bind ?_ (fun _ => ?_))
      | exact ih0 _ _ _ _ _ _ _ _ _ _ _ _ _ _ _ _ _ _ _ _ _ _ _ _ _ _ _ _ _ _ _
      | exact ih1 _ _ _ _ _ _ _ _ _ _ _ _ _ _ _ _ _ _
      | exact ih2 _ _ _
      | exact impl_EncodeSegment.mono _ _ _ _ _ _ _ _ _ _ _ _ _ _ _
      | exact laws_eqByteS.mono _ _ _
      | exact laws_eqSegment.mono _ _ _ _ _ _ _ _ _ _ _ _ _ _ _ _ _ _ _ _ _ _ _ _ _
      | exact laws_heldByteS.mono _ _ _
      | exact laws_markByteS.mono _ _ _
      | exact laws_markSegment.mono _ _ _ _ _ _ _ _ _ _ _ _ _ _
      | exact laws_toSegment.mono _ _ _ _ _ _ _ _ _ _ _ _ _
      | exact spec_EncodeSegment.mono _ _ _ _ _ _ _ _ _ _ _ _ _ _ _
      | exact LeO.none _
      | refine LeO.ite ?_ ?_
      | refine LeO.bind ?_ (fun _ => ?_)
theorem laws_FnExactEncodeSegment.mono : ∀ a0 a1 a2 a3 a4 a5 a6 a7 a8 a9 a10 a11 a12 a13 k, LeO (laws_FnExactEncodeSegment.f k a0 a1 a2 a3 a4 a5 a6 a7 a8 a9 a10 a11 a12 a13) (laws_FnExactEncodeSegment.f (k + 1) a0 a1 a2 a3 a4 a5 a6 a7 a8 a9 a10 a11 a12 a13) := by
 intro a0 a1 a2 a3 a4 a5 a6 a7 a8 a9 a10 a11 a12 a13 k
 obtain ⟨ih0, ih1, ih2⟩ := laws_FnExactEncodeSegment.mono_l k
 unfold laws_FnExactEncodeSegment.f
 repeat' first
     | (with_reducible exact ih0 _ _ _ _ _ _ _ _ _ _ _ _ _ _ _ _ _ _ _ _ _ _ _ _ _ _ _ _ _ _ _)
     | (with_reducible exact ih1 _ _ _ _ _ _ _ _ _ _ _ _ _ _ _ _ _ _)
     | (with_reducible exact ih2 _ _ _)
     | (with_reducible exact impl_EncodeSegment.mono _ _ _ _ _ _ _ _ _ _ _ _ _ _ _)
     | (with_reducible exact laws_eqByteS.mono _ _ _)
     | (with_reducible exact laws_eqSegment.mono _ _ _ _ _ _ _ _ _ _ _ _ _ _ _ _ _ _ _ _ _ _ _ _ _)
     | (with_reducible exact laws_heldByteS.mono _ _ _)
     | (with_reducible exact laws_markByteS.mono _ _ _)
     | (with_reducible exact laws_markSegment.mono _ _ _ _ _ _ _ _ _ _ _ _ _ _)
     | (with_reducible exact laws_toSegment.mono _ _ _ _ _ _ _ _ _ _ _ _ _)
     | (with_reducible exact spec_EncodeSegment.mono _ _ _ _ _ _ _ _ _ _ _ _ _ _ _)
     | (with_reducible exact LeO.refl _)
     | (with_reducible exact LeO.none _)
     | (with_reducible refine LeO.ite ?_ ?_)
     | (with_reducible refine LeO.bind ?_ (fun _ => ?_))
     | exact ih0 _ _ _ _ _ _ _ _ _ _ _ _ _ _ _ _ _ _ _ _ _ _ _ _ _ _ _ _ _ _ _
     | exact ih1 _ _ _ _ _ _ _ _ _ _ _ _ _ _ _ _ _ _
     | exact ih2 _ _ _
     | exact impl_EncodeSegment.mono _ _ _ _ _ _ _ _ _ _ _ _ _ _ _
     | exact laws_eqByteS.mono _ _ _
     | exact laws_eqSegment.mono _ _ _ _ _ _ _ _ _ _ _ _ _ _ _ _ _ _ _ _ _ _ _ _ _
     | exact laws_heldByteS.mono _ _ _
     | exact laws_markByteS.mono _ _ _
     | exact laws_markSegment.mono _ _ _ _ _ _ _ _ _ _ _ _ _ _
     | exact laws_toSegment.mono _ _ _ _ _ _ _ _ _ _ _ _ _
     | exact spec_EncodeSegment.mono _ _ _ _ _ _ _ _ _ _ _ _ _ _ _
     | exact LeO.none _
     | refine LeO.ite ?_ ?_
     | refine LeO.bind ?_ (fun _ => ?_)
set_option maxHeartbeats 8000000 in
set_option maxRecDepth 100000 in
theorem laws_FnExactEncodeSegment.calls (k : Nat) (a0_0 : Int) (a0_1 : Int) (a0_2 : Int) (a0_3 : Int) (a0_4 : Int) (a0_5 : Int) (a0_6 : Int) (a0_7 : Bool) (a0_8 : Int) (a0_9 : Bool) (A0_10 : Option Addr) (c0_10 : Nat) (l0_10 : List (S165)) (A0_11 : Option Addr) (c0_11 : Nat) (l0_11 : List Int) (a1 : Int) (a2 : Int) (r : Bool) (w : World) (hr0_10 : Kd.C k165 w A0_10 l0_10.length l0_10) (hc0_10 : l0_10.length ≤ c0_10) (hr0_11 : Kd.C (Kd.int .u8) w A0_11 l0_11.length l0_11) (hc0_11 : l0_11.length ≤ c0_11) (h : laws_FnExactEncodeSegment.f k a0_0 a0_1 a0_2 a0_3 a0_4 a0_5 a0_6 a0_7 a0_8 a0_9 l0_10 l0_11 a1 a2 = some r) :
 Calls Try.prog 13 #[.agg #[.int .i64 a0_0, .int .i64 a0_1, .int .i64 a0_2, .int .i64 a0_3, .int .i64 a0_4, .int .i64 a0_5, .int .i64 a0_6, .bool a0_7, .int .i64 a0_8, .bool a0_9, .slice A0_10 l0_10.length c0_10, .slice A0_11 l0_11.length c0_11], .int .i64 a1, .int .i64 a2] w fun e w' => e = .returned (.bool r) ∧ Below w.heap.size w w' := by
 have hu46 := Try.underlying46
 have hu51 := Try.underlying51
 have HR0_10 := Aside0.mk hr0_10
 have HC0_10 := Aside0.mk hc0_10
 clear hr0_10 hc0_10
 have HR0_11 := Aside0.mk hr0_11
 have HC0_11 := Aside0.mk hc0_11
 clear hr0_11 hc0_11
 have HB := Aside0.mk (Below.refl w.heap.size w)
 have H : ((laws_szSegment.f a0_0 a0_1 a0_2 a0_3 a0_4 a0_5 a0_6 a0_7 a0_8 a0_9 l0_10 l0_11 1048576).bind fun t428 => (if t428 < 0 then (some true) else ((laws_toSegment.f k a0_0 a0_1 a0_2 a0_3 a0_4 a0_5 a0_6 a0_7 a0_8 a0_9 l0_10 l0_11).bind fun bt429 => ((spec_EncodeSegment.f k bt429.1 bt429.2.1 bt429.2.2.1 bt429.2.2.2.1 bt429.2.2.2.2.1 bt429.2.2.2.2.2.1 bt429.2.2.2.2.2.2.1 bt429.2.2.2.2.2.2.2.1 bt429.2.2.2.2.2.2.2.2.1 bt429.2.2.2.2.2.2.2.2.2.1 bt429.2.2.2.2.2.2.2.2.2.2.1 bt429.2.2.2.2.2.2.2.2.2.2.2 a1 a2).bind fun bt445 => ((laws_toSegment.f k a0_0 a0_1 a0_2 a0_3 a0_4 a0_5 a0_6 a0_7 a0_8 a0_9 l0_10 l0_11).bind fun bt449 => ((impl_EncodeSegment.f k bt449.1 bt449.2.1 bt449.2.2.1 bt449.2.2.2.1 bt449.2.2.2.2.1 bt449.2.2.2.2.2.1 bt449.2.2.2.2.2.2.1 bt449.2.2.2.2.2.2.2.1 bt449.2.2.2.2.2.2.2.2.1 bt449.2.2.2.2.2.2.2.2.2.1 bt449.2.2.2.2.2.2.2.2.2.2.1 bt449.2.2.2.2.2.2.2.2.2.2.2 a1 a2).bind fun bt466 => ((laws_eqByteS.f k bt466.1 bt445.1).bind fun t470 => (if t470 = true then (laws_FnExactEncodeSegment.j0 k a1 a2 bt445.1 bt445.2 bt466.1 bt466.2 (bt466.2 != bt445.2) a0_0 a0_1 a0_2 a0_3 a0_4 a0_5 a0_6 a0_7 a0_8 a0_9 l0_10 l0_11 bt449.1 bt449.2.1 bt449.2.2.1 bt449.2.2.2.1 bt449.2.2.2.2.1 bt449.2.2.2.2.2.1 bt449.2.2.2.2.2.2.1 bt449.2.2.2.2.2.2.2.1 bt449.2.2.2.2.2.2.2.2.1 bt449.2.2.2.2.2.2.2.2.2.1 bt449.2.2.2.2.2.2.2.2.2.2.1 bt449.2.2.2.2.2.2.2.2.2.2.2) else (laws_FnExactEncodeSegment.j0 k a1 a2 bt445.1 bt445.2 bt466.1 bt466.2 true a0_0 a0_1 a0_2 a0_3 a0_4 a0_5 a0_6 a0_7 a0_8 a0_9 l0_10 l0_11 bt449.1 bt449.2.1 bt449.2.2.1 bt449.2.2.2.1 bt449.2.2.2.2.1 bt449.2.2.2.2.2.1 bt449.2.2.2.2.2.2.1 bt449.2.2.2.2.2.2.2.1 bt449.2.2.2.2.2.2.2.2.1 bt449.2.2.2.2.2.2.2.2.2.1 bt449.2.2.2.2.2.2.2.2.2.2.1 bt449.2.2.2.2.2.2.2.2.2.2.2))))))))) = some r := h
 clear h
 replace H := Option.bind_eq_some_iff.mp H
 obtain ⟨t428, A40, H⟩ := H
 replace H : (if t428 < 0 then (some true) else ((laws_toSegment.f k a0_0 a0_1 a0_2 a0_3 a0_4 a0_5 a0_6 a0_7 a0_8 a0_9 l0_10 l0_11).bind fun bt429 => ((spec_EncodeSegment.f k bt429.1 bt429.2.1 bt429.2.2.1 bt429.2.2.2.1 bt429.2.2.2.2.1 bt429.2.2.2.2.2.1 bt429.2.2.2.2.2.2.1 bt429.2.2.2.2.2.2.2.1 bt429.2.2.2.2.2.2.2.2.1 bt429.2.2.2.2.2.2.2.2.2.1 bt429.2.2.2.2.2.2.2.2.2.2.1 bt429.2.2.2.2.2.2.2.2.2.2.2 a1 a2).bind fun bt445 => ((laws_toSegment.f k a0_0 a0_1 a0_2 a0_3 a0_4 a0_5 a0_6 a0_7 a0_8 a0_9 l0_10 l0_11).bind fun bt449 => ((impl_EncodeSegment.f k bt449.1 bt449.2.1 bt449.2.2.1 bt449.2.2.2.1 bt449.2.2.2.2.1 bt449.2.2.2.2.2.1 bt449.2.2.2.2.2.2.1 bt449.2.2.2.2.2.2.2.1 bt449.2.2.2.2.2.2.2.2.1 bt449.2.2.2.2.2.2.2.2.2.1 bt449.2.2.2.2.2.2.2.2.2.2.1 bt449.2.2.2.2.2.2.2.2.2.2.2 a1 a2).bind fun bt466 => ((laws_eqByteS.f k bt466.1 bt445.1).bind fun t470 => (if t470 = true then (laws_FnExactEncodeSegment.j0 k a1 a2 bt445.1 bt445.2 bt466.1 bt466.2 (bt466.2 != bt445.2) a0_0 a0_1 a0_2 a0_3 a0_4 a0_5 a0_6 a0_7 a0_8 a0_9 l0_10 l0_11 bt449.1 bt449.2.1 bt449.2.2.1 bt449.2.2.2.1 bt449.2.2.2.2.1 bt449.2.2.2.2.2.1 bt449.2.2.2.2.2.2.1 bt449.2.2.2.2.2.2.2.1 bt449.2.2.2.2.2.2.2.2.1 bt449.2.2.2.2.2.2.2.2.2.1 bt449.2.2.2.2.2.2.2.2.2.2.1 bt449.2.2.2.2.2.2.2.2.2.2.2) else (laws_FnExactEncodeSegment.j0 k a1 a2 bt445.1 bt445.2 bt466.1 bt466.2 true a0_0 a0_1 a0_2 a0_3 a0_4 a0_5 a0_6 a0_7 a0_8 a0_9 l0_10 l0_11 bt449.1 bt449.2.1 bt449.2.2.1 bt449.2.2.2.1 bt449.2.2.2.2.1 bt449.2.2.2.2.2.1 bt449.2.2.2.2.2.2.1 bt449.2.2.2.2.2.2.2.1 bt449.2.2.2.2.2.2.2.2.1 bt449.2.2.2.2.2.2.2.2.2.1 bt449.2.2.2.2.2.2.2.2.2.2.1 bt449.2.2.2.2.2.2.2.2.2.2.2)))))))) = some r := H
 have A4 := Aside0.mk A40
 clear A40
 by_cases c5 : t428 < 0
 {
 rw [if_pos c5] at H
 have c5b0 : decide (t428 < 0) = true := decide_eq_true c5
 clear c5
 obtain rfl := Option.some.inj H
 go_enter Try.func13, Try.ntmps13
 go_wp2_with (first | ((with_reducible refine gate_dst (N := 3) rfl ?_); refine box_event ?hg (N := 3) ?hd (cs := #[.int .i64 a0_0, .int .i64 a0_1, .int .i64 a0_2, .int .i64 a0_3, .int .i64 a0_4, .int .i64 a0_5, .int .i64 a0_6, .bool a0_7, .int .i64 a0_8, .bool a0_9, .slice A0_10 l0_10.length c0_10, .slice A0_11 l0_11.length c0_11]) (t := 46) ?hr ?_; (case hd => rfl); (case hg => rfl); (case hr => first | (go_simp; done) | (go_simp; rfl)); intro gb427 hg w6 hbox hb; have n0_ := Aside0.mk (below_step wB hb); have n1_ := Aside0.mk (hbox); have n2_ := Aside0.mk ((by rw [hg]; exact (below_size wB) : w.heap.size ≤ gb427)); have n3_ := Aside0.mk ((by rw [hg]; exact (below_size wB) : w.heap.size ≤ gb427)); clear HB; have HB := n0_; have BK427 := n1_; have GW427 := n2_; have GE427 := n3_; clear n0_ n1_ n2_ n3_; clear hb hbox hg; obtain ⟨⟨hcz7_0, hcz7_1, hcz7_2, hcz7_3, hcz7_4, hcz7_5, hcz7_6, hcz7_7, hcz7_8, hcz7_9, hcz7_10, hcz7_11⟩, hfz7_0, hfz7_1, hfz7_2, hfz7_3, hfz7_4, hfz7_5, hfz7_6, hfz7_7, hfz7_8, hfz7_9, hfz7_10, hfz7_11⟩ := cells12 BK427.out) | ((with_reducible refine gate_callee (f := 29) rfl ?_); refine goesL_ (some 20) rfl rfl Try.func29 (by kernel_rfl) rfl #[.agg #[.int .i64 a0_0, .int .i64 a0_1, .int .i64 a0_2, .int .i64 a0_3, .int .i64 a0_4, .int .i64 a0_5, .int .i64 a0_6, .bool a0_7, .int .i64 a0_8, .bool a0_9, .slice A0_10 l0_10.length c0_10, .slice A0_11 l0_11.length c0_11], .int .i64 1048576] rfl wT ?_; (with_reducible refine (laws_szSegment.calls a0_0 a0_1 a0_2 a0_3 a0_4 a0_5 a0_6 a0_7 a0_8 a0_9 _ _ l0_10 _ _ l0_11 1048576 t428 _ ?side1 ?side2 ?side3 ?side4 A4.out).mono ?_); (case side1 => exact Kd.C_below HR0_10.out wB); (case side2 => exact HC0_10.out); (case side3 => exact Kd.C_below HR0_11.out wB); (case side4 => exact HC0_11.out); rintro e w8 ⟨rfl, hb⟩; refine ⟨_, rfl, ?_⟩; have n0_ := Aside0.mk (blk_below (Bh BK427) hb); have n1_ := Aside0.mk (below_step wB hb); clear BK427; clear HB; have BK427 := n0_; have HB := n1_; clear n0_ n1_; (try clear hb); (try clear hb2); (try clear hk); (try clear hi)))
 go_ret
 exact ⟨by first | rfl | (simp [errW_none, errW_some] <;> rfl) | (simp [*, errW_none, errW_some] <;> rfl), wB⟩
 }
 {
 rw [if_neg c5] at H
 have c5b0 : decide (t428 < 0) = false := decide_eq_false c5
 clear c5
 replace H := Option.bind_eq_some_iff.mp H
 obtain ⟨⟨t429, t430, t431, t432, t433, t434, t435, t436, t437, t438, t439, t442⟩, A90, H⟩ := H
 replace H : ((spec_EncodeSegment.f k t429 t430 t431 t432 t433 t434 t435 t436 t437 t438 t439 t442 a1 a2).bind fun bt445 => ((laws_toSegment.f k a0_0 a0_1 a0_2 a0_3 a0_4 a0_5 a0_6 a0_7 a0_8 a0_9 l0_10 l0_11).bind fun bt449 => ((impl_EncodeSegment.f k bt449.1 bt449.2.1 bt449.2.2.1 bt449.2.2.2.1 bt449.2.2.2.2.1 bt449.2.2.2.2.2.1 bt449.2.2.2.2.2.2.1 bt449.2.2.2.2.2.2.2.1 bt449.2.2.2.2.2.2.2.2.1 bt449.2.2.2.2.2.2.2.2.2.1 bt449.2.2.2.2.2.2.2.2.2.2.1 bt449.2.2.2.2.2.2.2.2.2.2.2 a1 a2).bind fun bt466 => ((laws_eqByteS.f k bt466.1 bt445.1).bind fun t470 => (if t470 = true then (laws_FnExactEncodeSegment.j0 k a1 a2 bt445.1 bt445.2 bt466.1 bt466.2 (bt466.2 != bt445.2) a0_0 a0_1 a0_2 a0_3 a0_4 a0_5 a0_6 a0_7 a0_8 a0_9 l0_10 l0_11 bt449.1 bt449.2.1 bt449.2.2.1 bt449.2.2.2.1 bt449.2.2.2.2.1 bt449.2.2.2.2.2.1 bt449.2.2.2.2.2.2.1 bt449.2.2.2.2.2.2.2.1 bt449.2.2.2.2.2.2.2.2.1 bt449.2.2.2.2.2.2.2.2.2.1 bt449.2.2.2.2.2.2.2.2.2.2.1 bt449.2.2.2.2.2.2.2.2.2.2.2) else (laws_FnExactEncodeSegment.j0 k a1 a2 bt445.1 bt445.2 bt466.1 bt466.2 true a0_0 a0_1 a0_2 a0_3 a0_4 a0_5 a0_6 a0_7 a0_8 a0_9 l0_10 l0_11 bt449.1 bt449.2.1 bt449.2.2.1 bt449.2.2.2.1 bt449.2.2.2.2.1 bt449.2.2.2.2.2.1 bt449.2.2.2.2.2.2.1 bt449.2.2.2.2.2.2.2.1 bt449.2.2.2.2.2.2.2.2.1 bt449.2.2.2.2.2.2.2.2.2.1 bt449.2.2.2.2.2.2.2.2.2.2.1 bt449.2.2.2.2.2.2.2.2.2.2.2)))))) = some r := H
 have A9 := Aside0.mk A90
 clear A90
 replace H := Option.bind_eq_some_iff.mp H
 obtain ⟨⟨t445, t448⟩, A100, H⟩ := H
 replace H : ((laws_toSegment.f k a0_0 a0_1 a0_2 a0_3 a0_4 a0_5 a0_6 a0_7 a0_8 a0_9 l0_10 l0_11).bind fun bt449 => ((impl_EncodeSegment.f k bt449.1 bt449.2.1 bt449.2.2.1 bt449.2.2.2.1 bt449.2.2.2.2.1 bt449.2.2.2.2.2.1 bt449.2.2.2.2.2.2.1 bt449.2.2.2.2.2.2.2.1 bt449.2.2.2.2.2.2.2.2.1 bt449.2.2.2.2.2.2.2.2.2.1 bt449.2.2.2.2.2.2.2.2.2.2.1 bt449.2.2.2.2.2.2.2.2.2.2.2 a1 a2).bind fun bt466 => ((laws_eqByteS.f k bt466.1 t445).bind fun t470 => (if t470 = true then (laws_FnExactEncodeSegment.j0 k a1 a2 t445 t448 bt466.1 bt466.2 (bt466.2 != t448) a0_0 a0_1 a0_2 a0_3 a0_4 a0_5 a0_6 a0_7 a0_8 a0_9 l0_10 l0_11 bt449.1 bt449.2.1 bt449.2.2.1 bt449.2.2.2.1 bt449.2.2.2.2.1 bt449.2.2.2.2.2.1 bt449.2.2.2.2.2.2.1 bt449.2.2.2.2.2.2.2.1 bt449.2.2.2.2.2.2.2.2.1 bt449.2.2.2.2.2.2.2.2.2.1 bt449.2.2.2.2.2.2.2.2.2.2.1 bt449.2.2.2.2.2.2.2.2.2.2.2) else (laws_FnExactEncodeSegment.j0 k a1 a2 t445 t448 bt466.1 bt466.2 true a0_0 a0_1 a0_2 a0_3 a0_4 a0_5 a0_6 a0_7 a0_8 a0_9 l0_10 l0_11 bt449.1 bt449.2.1 bt449.2.2.1 bt449.2.2.2.1 bt449.2.2.2.2.1 bt449.2.2.2.2.2.1 bt449.2.2.2.2.2.2.1 bt449.2.2.2.2.2.2.2.1 bt449.2.2.2.2.2.2.2.2.1 bt449.2.2.2.2.2.2.2.2.2.1 bt449.2.2.2.2.2.2.2.2.2.2.1 bt449.2.2.2.2.2.2.2.2.2.2.2))))) = some r := H
 have A10 := Aside0.mk A100
 clear A100
 replace H := Option.bind_eq_some_iff.mp H
 obtain ⟨⟨t449, t450, t451, t452, t453, t454, t455, t456, t457, t458, t459, t462⟩, A110, H⟩ := H
 replace H : ((impl_EncodeSegment.f k t449 t450 t451 t452 t453 t454 t455 t456 t457 t458 t459 t462 a1 a2).bind fun bt466 => ((laws_eqByteS.f k bt466.1 t445).bind fun t470 => (if t470 = true then (laws_FnExactEncodeSegment.j0 k a1 a2 t445 t448 bt466.1 bt466.2 (bt466.2 != t448) a0_0 a0_1 a0_2 a0_3 a0_4 a0_5 a0_6 a0_7 a0_8 a0_9 l0_10 l0_11 t449 t450 t451 t452 t453 t454 t455 t456 t457 t458 t459 t462) else (laws_FnExactEncodeSegment.j0 k a1 a2 t445 t448 bt466.1 bt466.2 true a0_0 a0_1 a0_2 a0_3 a0_4 a0_5 a0_6 a0_7 a0_8 a0_9 l0_10 l0_11 t449 t450 t451 t452 t453 t454 t455 t456 t457 t458 t459 t462)))) = some r := H
 have A11 := Aside0.mk A110
 clear A110
 replace H := Option.bind_eq_some_iff.mp H
 obtain ⟨⟨t466, t469⟩, A120, H⟩ := H
 replace H : ((laws_eqByteS.f k t466 t445).bind fun t470 => (if t470 = true then (laws_FnExactEncodeSegment.j0 k a1 a2 t445 t448 t466 t469 (t469 != t448) a0_0 a0_1 a0_2 a0_3 a0_4 a0_5 a0_6 a0_7 a0_8 a0_9 l0_10 l0_11 t449 t450 t451 t452 t453 t454 t455 t456 t457 t458 t459 t462) else (laws_FnExactEncodeSegment.j0 k a1 a2 t445 t448 t466 t469 true a0_0 a0_1 a0_2 a0_3 a0_4 a0_5 a0_6 a0_7 a0_8 a0_9 l0_10 l0_11 t449 t450 t451 t452 t453 t454 t455 t456 t457 t458 t459 t462))) = some r := H
 have A12 := Aside0.mk A120
 clear A120
 have HC13 := Aside0.mk H
 clear H
 go_enter Try.func13, Try.ntmps13
 go_upto_region 8 with (first | ((with_reducible refine gate_dst (N := 3) rfl ?_); refine box_event ?hg (N := 3) ?hd (cs := #[.int .i64 a0_0, .int .i64 a0_1, .int .i64 a0_2, .int .i64 a0_3, .int .i64 a0_4, .int .i64 a0_5, .int .i64 a0_6, .bool a0_7, .int .i64 a0_8, .bool a0_9, .slice A0_10 l0_10.length c0_10, .slice A0_11 l0_11.length c0_11]) (t := 46) ?hr ?_; (case hd => rfl); (case hg => rfl); (case hr => first | (go_simp; done) | (go_simp; rfl)); intro gb427 hg w14 hbox hb; have n0_ := Aside0.mk (below_step wB hb); have n1_ := Aside0.mk (hbox); have n2_ := Aside0.mk ((by rw [hg]; exact (below_size wB) : w.heap.size ≤ gb427)); have n3_ := Aside0.mk ((by rw [hg]; exact (below_size wB) : w.heap.size ≤ gb427)); clear HB; have HB := n0_; have BK427 := n1_; have GW427 := n2_; have GE427 := n3_; clear n0_ n1_ n2_ n3_; clear hb hbox hg; obtain ⟨⟨hcz15_0, hcz15_1, hcz15_2, hcz15_3, hcz15_4, hcz15_5, hcz15_6, hcz15_7, hcz15_8, hcz15_9, hcz15_10, hcz15_11⟩, hfz15_0, hfz15_1, hfz15_2, hfz15_3, hfz15_4, hfz15_5, hfz15_6, hfz15_7, hfz15_8, hfz15_9, hfz15_10, hfz15_11⟩ := cells12 BK427.out) | ((with_reducible refine gate_callee (f := 29) rfl ?_); refine goesL_ (some 20) rfl rfl Try.func29 (by kernel_rfl) rfl #[.agg #[.int .i64 a0_0, .int .i64 a0_1, .int .i64 a0_2, .int .i64 a0_3, .int .i64 a0_4, .int .i64 a0_5, .int .i64 a0_6, .bool a0_7, .int .i64 a0_8, .bool a0_9, .slice A0_10 l0_10.length c0_10, .slice A0_11 l0_11.length c0_11], .int .i64 1048576] rfl wT ?_; (with_reducible refine (laws_szSegment.calls a0_0 a0_1 a0_2 a0_3 a0_4 a0_5 a0_6 a0_7 a0_8 a0_9 _ _ l0_10 _ _ l0_11 1048576 t428 _ ?side1 ?side2 ?side3 ?side4 A4.out).mono ?_); (case side1 => exact Kd.C_below HR0_10.out wB); (case side2 => exact HC0_10.out); (case side3 => exact Kd.C_below HR0_11.out wB); (case side4 => exact HC0_11.out); rintro e w16 ⟨rfl, hb⟩; refine ⟨_, rfl, ?_⟩; have n0_ := Aside0.mk (blk_below (Bh BK427) hb); have n1_ := Aside0.mk (below_step wB hb); clear BK427; clear HB; have BK427 := n0_; have HB := n1_; clear n0_ n1_; (try clear hb); (try clear hb2); (try clear hk); (try clear hi); obtain ⟨⟨hcz17_0, hcz17_1, hcz17_2, hcz17_3, hcz17_4, hcz17_5, hcz17_6, hcz17_7, hcz17_8, hcz17_9, hcz17_10, hcz17_11⟩, hfz17_0, hfz17_1, hfz17_2, hfz17_3, hfz17_4, hfz17_5, hfz17_6, hfz17_7, hfz17_8, hfz17_9, hfz17_10, hfz17_11⟩ := cells12 BK427.out) | ((with_reducible refine gate_callee (f := 31) rfl ?_); refine goesL_ (some 25) rfl rfl Try.func31 (by kernel_rfl) rfl #[.agg #[.int .i64 a0_0, .int .i64 a0_1, .int .i64 a0_2, .int .i64 a0_3, .int .i64 a0_4, .int .i64 a0_5, .int .i64 a0_6, .bool a0_7, .int .i64 a0_8, .bool a0_9, .slice A0_10 l0_10.length c0_10, .slice A0_11 l0_11.length c0_11]] rfl wT ?_; (with_reducible refine (laws_toSegment.calls k a0_0 a0_1 a0_2 a0_3 a0_4 a0_5 a0_6 a0_7 a0_8 a0_9 _ _ l0_10 _ _ l0_11 t429 t430 t431 t432 t433 t434 t435 t436 t437 t438 t439 t442 _ ?side1 ?side2 ?side3 ?side4 A9.out).mono ?_); (case side1 => exact Kd.C_below HR0_10.out wB); (case side2 => exact HC0_10.out); (case side3 => exact Kd.C_below HR0_11.out wB); (case side4 => exact HC0_11.out); rintro e w18 ⟨v440, v443, rfl, ho0, ho1, hb⟩; refine ⟨_, rfl, ?_⟩; have n0_ := Aside0.mk (Kd.R_lower ho0 (below_size wB)); have n1_ := Aside0.mk (Kd.R_lower ho1 (below_size wB)); have n2_ := Aside0.mk (blk_below (Bh BK427) hb); have n3_ := Aside0.mk (below_step wB hb); clear BK427; clear HB; have HO441 := n0_; have HO444 := n1_; have BK427 := n2_; have HB := n3_; clear n0_ n1_ n2_ n3_; (try clear hb); (try clear hb2); (try clear hk); (try clear hi); (try clear ho0); (try clear ho1); obtain ⟨Ao19, co19, eo19⟩ := Kd.R_slice HO441.out; subst eo19; obtain ⟨Ao20, co20, eo20⟩ := Kd.R_slice HO444.out; subst eo20) | ((with_reducible refine gate_callee (f := 66) rfl ?_); refine goesL_ (some 28) rfl rfl Try.func66 (by kernel_rfl) rfl #[.agg #[.int .i64 t429, .int .i64 t430, .int .i64 t431, .int .i64 t432, .int .i64 t433, .int .i64 t434, .int .i64 t435, .bool t436, .int .i64 t437, .bool t438, .slice Ao19 t439.length co19, .slice Ao20 t442.length co20], .int .i64 a1, .int .i64 a2] rfl wT ?_; (with_reducible refine (spec_EncodeSegment.calls k t429 t430 t431 t432 t433 t434 t435 t436 t437 t438 _ _ t439 _ _ t442 a1 a2 t445 t448 _ ?side1 ?side2 ?side3 ?side4 A10.out).mono ?_); (case side1 => exact Ch HO441); (case side2 => exact (Kd.R_reads' HO441.out).2.1); (case side3 => exact Ch HO444); (case side4 => exact (Kd.R_reads' HO444.out).2.1); rintro e w21 ⟨v446, rfl, ho0, hb⟩; refine ⟨_, rfl, ?_⟩; have n0_ := Aside0.mk (Kd.R_below (Rh HO441) hb); have n1_ := Aside0.mk (Kd.R_elder' (Rh HO444) (Kd.R_base ho0) hb); have n2_ := Aside0.mk (Kd.R_lower (Kd.R_new' ho0 (Kd.R_lt (Rh HO444))) (below_size wB)); have n3_ := Aside0.mk (blk_below (Bh BK427) hb); have n4_ := Aside0.mk (below_step wB hb); clear HO441; clear HO444; clear BK427; clear HB; have HO441 := n0_; have HO444 := n1_; have HO447 := n2_; have BK427 := n3_; have HB := n4_; clear n0_ n1_ n2_ n3_ n4_; (try clear hb); (try clear hb2); (try clear hk); (try clear hi); (try clear ho0); obtain ⟨⟨hcz22_0, hcz22_1, hcz22_2, hcz22_3, hcz22_4, hcz22_5, hcz22_6, hcz22_7, hcz22_8, hcz22_9, hcz22_10, hcz22_11⟩, hfz22_0, hfz22_1, hfz22_2, hfz22_3, hfz22_4, hfz22_5, hfz22_6, hfz22_7, hfz22_8, hfz22_9, hfz22_10, hfz22_11⟩ := cells12 BK427.out) | ((with_reducible refine gate_callee (f := 31) rfl ?_); refine goesL_ (some 32) rfl rfl Try.func31 (by kernel_rfl) rfl #[.agg #[.int .i64 a0_0, .int .i64 a0_1, .int .i64 a0_2, .int .i64 a0_3, .int .i64 a0_4, .int .i64 a0_5, .int .i64 a0_6, .bool a0_7, .int .i64 a0_8, .bool a0_9, .slice A0_10 l0_10.length c0_10, .slice A0_11 l0_11.length c0_11]] rfl wT ?_; (with_reducible refine (laws_toSegment.calls k a0_0 a0_1 a0_2 a0_3 a0_4 a0_5 a0_6 a0_7 a0_8 a0_9 _ _ l0_10 _ _ l0_11 t449 t450 t451 t452 t453 t454 t455 t456 t457 t458 t459 t462 _ ?side1 ?side2 ?side3 ?side4 A11.out).mono ?_); (case side1 => exact Kd.C_below HR0_10.out wB); (case side2 => exact HC0_10.out); (case side3 => exact Kd.C_below HR0_11.out wB); (case side4 => exact HC0_11.out); rintro e w23 ⟨v460, v463, rfl, ho0, ho1, hb⟩; refine ⟨_, rfl, ?_⟩; have n0_ := Aside0.mk (Kd.R_elder' (Rh HO441) (Kd.R_base ho0) hb); have n1_ := Aside0.mk (Kd.R_elder' (Rh HO444) (Kd.R_base ho1) hb); have n2_ := Aside0.mk (Kd.R_elder' (Rh HO447) (Kd.R_base ho1) hb); have n3_ := Aside0.mk (Kd.R_lower (Kd.R_new' ho0 (Kd.R_lt (Rh HO441))) (below_size wB)); have n4_ := Aside0.mk (Kd.R_lower (Kd.R_new' (Kd.R_new' ho1 (Kd.R_lt (Rh HO444))) (Kd.R_lt (Rh HO447))) (below_size wB)); have n5_ := Aside0.mk (blk_below (Bh BK427) hb); have n6_ := Aside0.mk (below_step wB hb); clear HO441; clear HO444; clear HO447; clear BK427; clear HB; have HO441 := n0_; have HO444 := n1_; have HO447 := n2_; have HO461 := n3_; have HO464 := n4_; have BK427 := n5_; have HB := n6_; clear n0_ n1_ n2_ n3_ n4_ n5_ n6_; (try clear hb); (try clear hb2); (try clear hk); (try clear hi); (try clear ho0); (try clear ho1)) | ((with_reducible refine gate_dst (N := 10) rfl ?_); refine box_event ?hg (N := 10) ?hd (cs := #[.int .i64 0, .int .i64 0, .int .i64 0, .int .i64 0, .int .i64 0, .int .i64 0, .int .i64 0, .bool false, .int .i64 0, .bool false, .slice none 0 0, .slice none 0 0]) (t := 51) ?hr ?_; (case hd => rfl); (case hg => rfl); (case hr => first | (go_simp; done) | (go_simp; rfl)); intro gb465 hg w24 hbox hb; have n0_ := Aside0.mk (Kd.R_below (Rh HO441) hb); have n1_ := Aside0.mk (Kd.R_below (Rh HO444) hb); have n2_ := Aside0.mk (Kd.R_below (Rh HO447) hb); have n3_ := Aside0.mk (Kd.R_below (Rh HO461) hb); have n4_ := Aside0.mk (Kd.R_below (Rh HO464) hb); have n5_ := Aside0.mk (blk_below (Bh BK427) hb); have n6_ := Aside0.mk (below_step wB hb); have n7_ := Aside0.mk (hbox); have n8_ := Aside0.mk ((by rw [hg]; exact (below_size wB) : w.heap.size ≤ gb465)); have n9_ := Aside0.mk ((by rw [hg]; exact (below_size wB) : w.heap.size ≤ gb465)); have n10_ := Aside0.mk ((by rw [hg]; exact Nat.ne_of_lt (blk_lt (Bh BK427)) : gb427 ≠ gb465)); have n11_ := Aside0.mk ((by rw [hg]; exact Nat.ne_of_gt (blk_lt (Bh BK427)) : gb465 ≠ gb427)); clear HO441; clear HO444; clear HO447; clear HO461; clear HO464; clear BK427; clear HB; have HO441 := n0_; have HO444 := n1_; have HO447 := n2_; have HO461 := n3_; have HO464 := n4_; have BK427 := n5_; have HB := n6_; have BK465 := n7_; have GW465 := n8_; have GE465 := n9_; have NB427_465 := n10_; have NB465_427 := n11_; clear n0_ n1_ n2_ n3_ n4_ n5_ n6_ n7_ n8_ n9_ n10_ n11_; clear hb hbox hg; have hnb25 := NB465_427.out; have hnc25 := NB427_465.out; obtain ⟨⟨hcz26_0, hcz26_1, hcz26_2, hcz26_3, hcz26_4, hcz26_5, hcz26_6, hcz26_7, hcz26_8, hcz26_9, hcz26_10, hcz26_11⟩, hfz26_0, hfz26_1, hfz26_2, hfz26_3, hfz26_4, hfz26_5, hfz26_6, hfz26_7, hfz26_8, hfz26_9, hfz26_10, hfz26_11⟩ := cells12 BK465.out; obtain ⟨Ao27, co27, eo27⟩ := Kd.R_slice HO461.out; subst eo27; obtain ⟨Ao28, co28, eo28⟩ := Kd.R_slice HO464.out; subst eo28) | ((with_reducible refine gate_store (t := 51) (p := 10) rfl ?_); (try (rw [drewN_self w24]; generalize hq_ : World.drewN w24 _ = w24; have n0_ := Aside0.mk (Kd.R_at hq_ HO441.out); have n1_ := Aside0.mk (Kd.R_at hq_ HO444.out); have n2_ := Aside0.mk (Kd.R_at hq_ HO447.out); have n3_ := Aside0.mk (Kd.R_at hq_ HO461.out); have n4_ := Aside0.mk (Kd.R_at hq_ HO464.out); have n5_ := Aside0.mk (blk_at hq_ BK427.out); have n6_ := Aside0.mk (blk_at hq_ BK465.out); have n7_ := Aside0.mk (below_at hq_ HB.out); clear hq_ HO441 HO444 HO447 HO461 HO464 BK427 BK465 HB; have HO441 := n0_; have HO444 := n1_; have HO447 := n2_; have HO461 := n3_; have HO464 := n4_; have BK427 := n5_; have BK465 := n6_; have HB := n7_; clear n0_ n1_ n2_ n3_ n4_ n5_ n6_ n7_; (try (obtain ⟨⟨hcyBK427_0, hcyBK427_1, hcyBK427_2, hcyBK427_3, hcyBK427_4, hcyBK427_5, hcyBK427_6, hcyBK427_7, hcyBK427_8, hcyBK427_9, hcyBK427_10, hcyBK427_11⟩, hfyBK427_0, hfyBK427_1, hfyBK427_2, hfyBK427_3, hfyBK427_4, hfyBK427_5, hfyBK427_6, hfyBK427_7, hfyBK427_8, hfyBK427_9, hfyBK427_10, hfyBK427_11⟩ := cells12 BK427.out)); (try (obtain ⟨⟨hcyBK465_0, hcyBK465_1, hcyBK465_2, hcyBK465_3, hcyBK465_4, hcyBK465_5, hcyBK465_6, hcyBK465_7, hcyBK465_8, hcyBK465_9, hcyBK465_10, hcyBK465_11⟩, hfyBK465_0, hfyBK465_1, hfyBK465_2, hfyBK465_3, hfyBK465_4, hfyBK465_5, hfyBK465_6, hfyBK465_7, hfyBK465_8, hfyBK465_9, hfyBK465_10, hfyBK465_11⟩ := cells12 BK465.out)))); refine store_event (t := 51) (p := 10) (v := ?vo_w29) (w1 := ((((((((((((w24.setCell ⟨gb465, 0, none⟩ (.int .i64 t449)).setCell ⟨gb465, 1, none⟩ (.int .i64 t450)).setCell ⟨gb465, 2, none⟩ (.int .i64 t451)).setCell ⟨gb465, 3, none⟩ (.int .i64 t452)).setCell ⟨gb465, 4, none⟩ (.int .i64 t453)).setCell ⟨gb465, 5, none⟩ (.int .i64 t454)).setCell ⟨gb465, 6, none⟩ (.int .i64 t455)).setCell ⟨gb465, 7, none⟩ (.bool t456)).setCell ⟨gb465, 8, none⟩ (.int .i64 t457)).setCell ⟨gb465, 9, none⟩ (.bool t458)).setCell ⟨gb465, 10, none⟩ (.slice Ao27 t459.length co27)).setCell ⟨gb465, 11, none⟩ (.slice Ao28 t462.length co28))) ?hg ?ho ?hn ?hr ?_; (case ho => rfl); (case hg => rfl); (case hn => rfl); (case hr => first | (go_simp; done) | (go_simp; rfl)); intro w29 hw; have n0_ : Aside0 (Kd.R k157 157 w29 w.heap.size (fun k_ => some k_ ≠ (.slice Ao27 t459.length co27 : Value).ownBlock) (.slice Ao19 t439.length co19) t439) := ⟨(by rw [hw]; exact (by (with_reducible repeat (first | apply Kd.R_alloc | apply Kd.R_drewN | apply Kd.R_drew)); exact Kd.R_mono (Kd.R_far (p := ⟨gb465, 11, none⟩) (Kd.R_far (p := ⟨gb465, 10, none⟩) (Kd.R_far (p := ⟨gb465, 9, none⟩) (Kd.R_far (p := ⟨gb465, 8, none⟩) (Kd.R_far (p := ⟨gb465, 7, none⟩) (Kd.R_far (p := ⟨gb465, 6, none⟩) (Kd.R_far (p := ⟨gb465, 5, none⟩) (Kd.R_far (p := ⟨gb465, 4, none⟩) (Kd.R_far (p := ⟨gb465, 3, none⟩) (Kd.R_far (p := ⟨gb465, 2, none⟩) (Kd.R_far (p := ⟨gb465, 1, none⟩) (Kd.R_far (p := ⟨gb465, 0, none⟩) (Kd.R_types HO441.out BK465.out (by decide)) (fun _ hk => hk.2) (.int .i64 t449)) (fun _ hk => hk.2) (.int .i64 t450)) (fun _ hk => hk.2) (.int .i64 t451)) (fun _ hk => hk.2) (.int .i64 t452)) (fun _ hk => hk.2) (.int .i64 t453)) (fun _ hk => hk.2) (.int .i64 t454)) (fun _ hk => hk.2) (.int .i64 t455)) (fun _ hk => hk.2) (.bool t456)) (fun _ hk => hk.2) (.int .i64 t457)) (fun _ hk => hk.2) (.bool t458)) (fun _ hk => hk.2) (.slice Ao27 t459.length co27)) (fun _ hk => hk.2) (.slice Ao28 t462.length co28)) (fun _ hk => hk.1.2)))⟩; have n1_ : Aside0 (Kd.R (Kd.int .u8) 5 w29 w.heap.size (fun k_ => some k_ ≠ (v446 : Value).ownBlock ∧ some k_ ≠ (.slice Ao28 t462.length co28 : Value).ownBlock) (.slice Ao20 t442.length co20) t442) := ⟨(by rw [hw]; exact (by (with_reducible repeat (first | apply Kd.R_alloc | apply Kd.R_drewN | apply Kd.R_drew)); exact Kd.R_mono (Kd.R_far (p := ⟨gb465, 11, none⟩) (Kd.R_far (p := ⟨gb465, 10, none⟩) (Kd.R_far (p := ⟨gb465, 9, none⟩) (Kd.R_far (p := ⟨gb465, 8, none⟩) (Kd.R_far (p := ⟨gb465, 7, none⟩) (Kd.R_far (p := ⟨gb465, 6, none⟩) (Kd.R_far (p := ⟨gb465, 5, none⟩) (Kd.R_far (p := ⟨gb465, 4, none⟩) (Kd.R_far (p := ⟨gb465, 3, none⟩) (Kd.R_far (p := ⟨gb465, 2, none⟩) (Kd.R_far (p := ⟨gb465, 1, none⟩) (Kd.R_far (p := ⟨gb465, 0, none⟩) (Kd.R_types HO444.out BK465.out (by decide)) (fun _ hk => hk.2) (.int .i64 t449)) (fun _ hk => hk.2) (.int .i64 t450)) (fun _ hk => hk.2) (.int .i64 t451)) (fun _ hk => hk.2) (.int .i64 t452)) (fun _ hk => hk.2) (.int .i64 t453)) (fun _ hk => hk.2) (.int .i64 t454)) (fun _ hk => hk.2) (.int .i64 t455)) (fun _ hk => hk.2) (.bool t456)) (fun _ hk => hk.2) (.int .i64 t457)) (fun _ hk => hk.2) (.bool t458)) (fun _ hk => hk.2) (.slice Ao27 t459.length co27)) (fun _ hk => hk.2) (.slice Ao28 t462.length co28)) (fun _ hk => ⟨hk.1.1.2, hk.1.2⟩)))⟩; have n2_ : Aside0 (Kd.R (Kd.int .u8) 5 w29 w.heap.size (fun k_ => some k_ ≠ (.slice Ao20 t442.length co20 : Value).ownBlock ∧ some k_ ≠ (.slice Ao28 t462.length co28 : Value).ownBlock) v446 t445) := ⟨(by rw [hw]; exact (by (with_reducible repeat (first | apply Kd.R_alloc | apply Kd.R_drewN | apply Kd.R_drew)); exact Kd.R_mono (Kd.R_far (p := ⟨gb465, 11, none⟩) (Kd.R_far (p := ⟨gb465, 10, none⟩) (Kd.R_far (p := ⟨gb465, 9, none⟩) (Kd.R_far (p := ⟨gb465, 8, none⟩) (Kd.R_far (p := ⟨gb465, 7, none⟩) (Kd.R_far (p := ⟨gb465, 6, none⟩) (Kd.R_far (p := ⟨gb465, 5, none⟩) (Kd.R_far (p := ⟨gb465, 4, none⟩) (Kd.R_far (p := ⟨gb465, 3, none⟩) (Kd.R_far (p := ⟨gb465, 2, none⟩) (Kd.R_far (p := ⟨gb465, 1, none⟩) (Kd.R_far (p := ⟨gb465, 0, none⟩) (Kd.R_types HO447.out BK465.out (by decide)) (fun _ hk => hk.2) (.int .i64 t449)) (fun _ hk => hk.2) (.int .i64 t450)) (fun _ hk => hk.2) (.int .i64 t451)) (fun _ hk => hk.2) (.int .i64 t452)) (fun _ hk => hk.2) (.int .i64 t453)) (fun _ hk => hk.2) (.int .i64 t454)) (fun _ hk => hk.2) (.int .i64 t455)) (fun _ hk => hk.2) (.bool t456)) (fun _ hk => hk.2) (.int .i64 t457)) (fun _ hk => hk.2) (.bool t458)) (fun _ hk => hk.2) (.slice Ao27 t459.length co27)) (fun _ hk => hk.2) (.slice Ao28 t462.length co28)) (fun _ hk => ⟨hk.1.1.2, hk.1.2⟩)))⟩; have n3_ : Aside0 (Kd.R k157 157 w29 w.heap.size (fun k_ => some k_ ≠ (.slice Ao19 t439.length co19 : Value).ownBlock) (.slice Ao27 t459.length co27) t459) := ⟨(by rw [hw]; exact (by (with_reducible repeat (first | apply Kd.R_alloc | apply Kd.R_drewN | apply Kd.R_drew)); exact Kd.R_mono (Kd.R_far (p := ⟨gb465, 11, none⟩) (Kd.R_far (p := ⟨gb465, 10, none⟩) (Kd.R_far (p := ⟨gb465, 9, none⟩) (Kd.R_far (p := ⟨gb465, 8, none⟩) (Kd.R_far (p := ⟨gb465, 7, none⟩) (Kd.R_far (p := ⟨gb465, 6, none⟩) (Kd.R_far (p := ⟨gb465, 5, none⟩) (Kd.R_far (p := ⟨gb465, 4, none⟩) (Kd.R_far (p := ⟨gb465, 3, none⟩) (Kd.R_far (p := ⟨gb465, 2, none⟩) (Kd.R_far (p := ⟨gb465, 1, none⟩) (Kd.R_far (p := ⟨gb465, 0, none⟩) (Kd.R_types HO461.out BK465.out (by decide)) (fun _ hk => hk.2) (.int .i64 t449)) (fun _ hk => hk.2) (.int .i64 t450)) (fun _ hk => hk.2) (.int .i64 t451)) (fun _ hk => hk.2) (.int .i64 t452)) (fun _ hk => hk.2) (.int .i64 t453)) (fun _ hk => hk.2) (.int .i64 t454)) (fun _ hk => hk.2) (.int .i64 t455)) (fun _ hk => hk.2) (.bool t456)) (fun _ hk => hk.2) (.int .i64 t457)) (fun _ hk => hk.2) (.bool t458)) (fun _ hk => hk.2) (.slice Ao27 t459.length co27)) (fun _ hk => hk.2) (.slice Ao28 t462.length co28)) (fun _ hk => hk.1.2)))⟩; have n4_ : Aside0 (Kd.R (Kd.int .u8) 5 w29 w.heap.size (fun k_ => some k_ ≠ (.slice Ao20 t442.length co20 : Value).ownBlock ∧ some k_ ≠ (v446 : Value).ownBlock) (.slice Ao28 t462.length co28) t462) := ⟨(by rw [hw]; exact (by (with_reducible repeat (first | apply Kd.R_alloc | apply Kd.R_drewN | apply Kd.R_drew)); exact Kd.R_mono (Kd.R_far (p := ⟨gb465, 11, none⟩) (Kd.R_far (p := ⟨gb465, 10, none⟩) (Kd.R_far (p := ⟨gb465, 9, none⟩) (Kd.R_far (p := ⟨gb465, 8, none⟩) (Kd.R_far (p := ⟨gb465, 7, none⟩) (Kd.R_far (p := ⟨gb465, 6, none⟩) (Kd.R_far (p := ⟨gb465, 5, none⟩) (Kd.R_far (p := ⟨gb465, 4, none⟩) (Kd.R_far (p := ⟨gb465, 3, none⟩) (Kd.R_far (p := ⟨gb465, 2, none⟩) (Kd.R_far (p := ⟨gb465, 1, none⟩) (Kd.R_far (p := ⟨gb465, 0, none⟩) (Kd.R_types HO464.out BK465.out (by decide)) (fun _ hk => hk.2) (.int .i64 t449)) (fun _ hk => hk.2) (.int .i64 t450)) (fun _ hk => hk.2) (.int .i64 t451)) (fun _ hk => hk.2) (.int .i64 t452)) (fun _ hk => hk.2) (.int .i64 t453)) (fun _ hk => hk.2) (.int .i64 t454)) (fun _ hk => hk.2) (.int .i64 t455)) (fun _ hk => hk.2) (.bool t456)) (fun _ hk => hk.2) (.int .i64 t457)) (fun _ hk => hk.2) (.bool t458)) (fun _ hk => hk.2) (.slice Ao27 t459.length co27)) (fun _ hk => hk.2) (.slice Ao28 t462.length co28)) (fun _ hk => ⟨hk.1.1.2, hk.1.2⟩)))⟩; have n5_ : Aside0 (w29.heap[gb427]? = some (.cells #[.int .i64 a0_0, .int .i64 a0_1, .int .i64 a0_2, .int .i64 a0_3, .int .i64 a0_4, .int .i64 a0_5, .int .i64 a0_6, .bool a0_7, .int .i64 a0_8, .bool a0_9, .slice A0_10 l0_10.length c0_10, .slice A0_11 l0_11.length c0_11] 46 (0, 0))) := ⟨(by rw [hw]; exact (by (with_reducible repeat (first | refine blk_drewN ?_ _ | refine blk_drew ?_ | refine blk_alloc ?_ _)); refine blk_far ?_ NB427_465.out _; (with_reducible repeat (first | refine blk_drewN ?_ _ | refine blk_drew ?_ | refine blk_alloc ?_ _)); refine blk_far ?_ NB427_465.out _; (with_reducible repeat (first | refine blk_drewN ?_ _ | refine blk_drew ?_ | refine blk_alloc ?_ _)); refine blk_far ?_ NB427_465.out _; (with_reducible repeat (first | refine blk_drewN ?_ _ | refine blk_drew ?_ | refine blk_alloc ?_ _)); refine blk_far ?_ NB427_465.out _; (with_reducible repeat (first | refine blk_drewN ?_ _ | refine blk_drew ?_ | refine blk_alloc ?_ _)); refine blk_far ?_ NB427_465.out _; (with_reducible repeat (first | refine blk_drewN ?_ _ | refine blk_drew ?_ | refine blk_alloc ?_ _)); refine blk_far ?_ NB427_465.out _; (with_reducible repeat (first | refine blk_drewN ?_ _ | refine blk_drew ?_ | refine blk_alloc ?_ _)); refine blk_far ?_ NB427_465.out _; (with_reducible repeat (first | refine blk_drewN ?_ _ | refine blk_drew ?_ | refine blk_alloc ?_ _)); refine blk_far ?_ NB427_465.out _; (with_reducible repeat (first | refine blk_drewN ?_ _ | refine blk_drew ?_ | refine blk_alloc ?_ _)); refine blk_far ?_ NB427_465.out _; (with_reducible repeat (first | refine blk_drewN ?_ _ | refine blk_drew ?_ | refine blk_alloc ?_ _)); refine blk_far ?_ NB427_465.out _; (with_reducible repeat (first | refine blk_drewN ?_ _ | refine blk_drew ?_ | refine blk_alloc ?_ _)); refine blk_far ?_ NB427_465.out _; (with_reducible repeat (first | refine blk_drewN ?_ _ | refine blk_drew ?_ | refine blk_alloc ?_ _)); refine blk_far ?_ NB427_465.out _; (with_reducible repeat (first | refine blk_drewN ?_ _ | refine blk_drew ?_ | refine blk_alloc ?_ _)); exact BK427.out))⟩; have n6_ : Aside0 (w29.heap[gb465]? = some (.cells #[.int .i64 t449, .int .i64 t450, .int .i64 t451, .int .i64 t452, .int .i64 t453, .int .i64 t454, .int .i64 t455, .bool t456, .int .i64 t457, .bool t458, .slice Ao27 t459.length co27, .slice Ao28 t462.length co28] 51 (0, 0))) := ⟨(by rw [hw]; exact (by (with_reducible repeat (first | refine blk_drewN ?_ _ | refine blk_drew ?_ | refine blk_alloc ?_ _)); refine blk_put (cs := #[.int .i64 t449, .int .i64 t450, .int .i64 t451, .int .i64 t452, .int .i64 t453, .int .i64 t454, .int .i64 t455, .bool t456, .int .i64 t457, .bool t458, .slice Ao27 t459.length co27, .slice none 0 0]) ?_ 11 _ rfl; (with_reducible repeat (first | refine blk_drewN ?_ _ | refine blk_drew ?_ | refine blk_alloc ?_ _)); refine blk_put (cs := #[.int .i64 t449, .int .i64 t450, .int .i64 t451, .int .i64 t452, .int .i64 t453, .int .i64 t454, .int .i64 t455, .bool t456, .int .i64 t457, .bool t458, .slice none 0 0, .slice none 0 0]) ?_ 10 _ rfl; (with_reducible repeat (first | refine blk_drewN ?_ _ | refine blk_drew ?_ | refine blk_alloc ?_ _)); refine blk_put (cs := #[.int .i64 t449, .int .i64 t450, .int .i64 t451, .int .i64 t452, .int .i64 t453, .int .i64 t454, .int .i64 t455, .bool t456, .int .i64 t457, .bool false, .slice none 0 0, .slice none 0 0]) ?_ 9 _ rfl; (with_reducible repeat (first | refine blk_drewN ?_ _ | refine blk_drew ?_ | refine blk_alloc ?_ _)); refine blk_put (cs := #[.int .i64 t449, .int .i64 t450, .int .i64 t451, .int .i64 t452, .int .i64 t453, .int .i64 t454, .int .i64 t455, .bool t456, .int .i64 0, .bool false, .slice none 0 0, .slice none 0 0]) ?_ 8 _ rfl; (with_reducible repeat (first | refine blk_drewN ?_ _ | refine blk_drew ?_ | refine blk_alloc ?_ _)); refine blk_put (cs := #[.int .i64 t449, .int .i64 t450, .int .i64 t451, .int .i64 t452, .int .i64 t453, .int .i64 t454, .int .i64 t455, .bool false, .int .i64 0, .bool false, .slice none 0 0, .slice none 0 0]) ?_ 7 _ rfl; (with_reducible repeat (first | refine blk_drewN ?_ _ | refine blk_drew ?_ | refine blk_alloc ?_ _)); refine blk_put (cs := #[.int .i64 t449, .int .i64 t450, .int .i64 t451, .int .i64 t452, .int .i64 t453, .int .i64 t454, .int .i64 0, .bool false, .int .i64 0, .bool false, .slice none 0 0, .slice none 0 0]) ?_ 6 _ rfl; (with_reducible repeat (first | refine blk_drewN ?_ _ | refine blk_drew ?_ | refine blk_alloc ?_ _)); refine blk_put (cs := #[.int .i64 t449, .int .i64 t450, .int .i64 t451, .int .i64 t452, .int .i64 t453, .int .i64 0, .int .i64 0, .bool false, .int .i64 0, .bool false, .slice none 0 0, .slice none 0 0]) ?_ 5 _ rfl; (with_reducible repeat (first | refine blk_drewN ?_ _ | refine blk_drew ?_ | refine blk_alloc ?_ _)); refine blk_put (cs := #[.int .i64 t449, .int .i64 t450, .int .i64 t451, .int .i64 t452, .int .i64 0, .int .i64 0, .int .i64 0, .bool false, .int .i64 0, .bool false, .slice none 0 0, .slice none 0 0]) ?_ 4 _ rfl; (with_reducible repeat (first | refine blk_drewN ?_ _ | refine blk_drew ?_ | refine blk_alloc ?_ _)); refine blk_put (cs := #[.int .i64 t449, .int .i64 t450, .int .i64 t451, .int .i64 0, .int .i64 0, .int .i64 0, .int .i64 0, .bool false, .int .i64 0, .bool false, .slice none 0 0, .slice none 0 0]) ?_ 3 _ rfl; (with_reducible repeat (first | refine blk_drewN ?_ _ | refine blk_drew ?_ | refine blk_alloc ?_ _)); refine blk_put (cs := #[.int .i64 t449, .int .i64 t450, .int .i64 0, .int .i64 0, .int .i64 0, .int .i64 0, .int .i64 0, .bool false, .int .i64 0, .bool false, .slice none 0 0, .slice none 0 0]) ?_ 2 _ rfl; (with_reducible repeat (first | refine blk_drewN ?_ _ | refine blk_drew ?_ | refine blk_alloc ?_ _)); refine blk_put (cs := #[.int .i64 t449, .int .i64 0, .int .i64 0, .int .i64 0, .int .i64 0, .int .i64 0, .int .i64 0, .bool false, .int .i64 0, .bool false, .slice none 0 0, .slice none 0 0]) ?_ 1 _ rfl; (with_reducible repeat (first | refine blk_drewN ?_ _ | refine blk_drew ?_ | refine blk_alloc ?_ _)); refine blk_put (cs := #[.int .i64 0, .int .i64 0, .int .i64 0, .int .i64 0, .int .i64 0, .int .i64 0, .int .i64 0, .bool false, .int .i64 0, .bool false, .slice none 0 0, .slice none 0 0]) ?_ 0 _ rfl; (with_reducible repeat (first | refine blk_drewN ?_ _ | refine blk_drew ?_ | refine blk_alloc ?_ _)); exact BK465.out))⟩; have n7_ : Aside0 (Below w.heap.size w w29) := ⟨(by rw [hw]; exact wB)⟩; clear hw; clear HO441; clear HO444; clear HO447; clear HO461; clear HO464; clear BK427; clear BK465; clear HB; have HO441 := n0_; have HO444 := n1_; have HO447 := n2_; have HO461 := n3_; have HO464 := n4_; have BK427 := n5_; have BK465 := n6_; have HB := n7_; clear n0_ n1_ n2_ n3_ n4_ n5_ n6_ n7_; obtain ⟨⟨hcz30_0, hcz30_1, hcz30_2, hcz30_3, hcz30_4, hcz30_5, hcz30_6, hcz30_7, hcz30_8, hcz30_9, hcz30_10, hcz30_11⟩, hfz30_0, hfz30_1, hfz30_2, hfz30_3, hfz30_4, hfz30_5, hfz30_6, hfz30_7, hfz30_8, hfz30_9, hfz30_10, hfz30_11⟩ := cells12 BK465.out) | ((with_reducible refine gate_callee (f := 67) rfl ?_); refine goesL_ (some 37) rfl rfl Try.func67 (by kernel_rfl) rfl #[.agg #[.int .i64 t449, .int .i64 t450, .int .i64 t451, .int .i64 t452, .int .i64 t453, .int .i64 t454, .int .i64 t455, .bool t456, .int .i64 t457, .bool t458, .slice Ao27 t459.length co27, .slice Ao28 t462.length co28], .int .i64 a1, .int .i64 a2] rfl wT ?_; (with_reducible refine (impl_EncodeSegment.calls k t449 t450 t451 t452 t453 t454 t455 t456 t457 t458 _ _ t459 _ _ t462 a1 a2 t466 t469 _ ?side1 ?side2 ?side3 ?side4 A12.out).mono ?_); (case side1 => exact Ch HO461); (case side2 => exact (Kd.R_reads' HO461.out).2.1); (case side3 => exact Ch HO464); (case side4 => exact (Kd.R_reads' HO464.out).2.1); rintro e w31 ⟨v467, rfl, ho0, hb⟩; refine ⟨_, rfl, ?_⟩; have n0_ := Aside0.mk (Kd.R_below (Rh HO441) hb); have n1_ := Aside0.mk (Kd.R_elder' (Rh HO444) (Kd.R_base ho0) hb); have n2_ := Aside0.mk (Kd.R_elder' (Rh HO447) (Kd.R_base ho0) hb); have n3_ := Aside0.mk (Kd.R_below (Rh HO461) hb); have n4_ := Aside0.mk (Kd.R_elder' (Rh HO464) (Kd.R_base ho0) hb); have n5_ := Aside0.mk (Kd.R_lower (Kd.R_new' (Kd.R_new' (Kd.R_new' ho0 (Kd.R_lt (Rh HO444))) (Kd.R_lt (Rh HO447))) (Kd.R_lt (Rh HO464))) (below_size wB)); have n6_ := Aside0.mk (blk_below (Bh BK427) hb); have n7_ := Aside0.mk (blk_below (Bh BK465) hb); have n8_ := Aside0.mk (below_step wB hb); clear HO441; clear HO444; clear HO447; clear HO461; clear HO464; clear BK427; clear BK465; clear HB; have HO441 := n0_; have HO444 := n1_; have HO447 := n2_; have HO461 := n3_; have HO464 := n4_; have HO468 := n5_; have BK427 := n6_; have BK465 := n7_; have HB := n8_; clear n0_ n1_ n2_ n3_ n4_ n5_ n6_ n7_ n8_; (try clear hb); (try clear hb2); (try clear hk); (try clear hi); (try clear ho0)))
 (try simp only [Act.put, List.setIfInBounds_toArray, List.set_cons_zero, List.set_cons_succ])
 go_cut [48] (fun v48 wc => ∃ (kq : Nat) (x48_12 : Bool), v48 = .bool x48_12 ∧ Aside0 (laws_FnExactEncodeSegment.j0 kq a1 a2 t445 t448 t466 t469 x48_12 a0_0 a0_1 a0_2 a0_3 a0_4 a0_5 a0_6 a0_7 a0_8 a0_9 l0_10 l0_11 t449 t450 t451 t452 t453 t454 t455 t456 t457 t458 t459 t462 = some r) ∧ Aside0 (kq ≤ k) ∧ Aside0 (Kd.R (Kd.int .u8) 5 wc w.heap.size (fun k_ => some k_ ≠ (v467 : Value).ownBlock ∧ some k_ ≠ ((.slice Ao28 t462.length co28) : Value).ownBlock) v446 t445) ∧ Aside0 (Kd.R (Kd.int .u8) 5 wc w.heap.size (fun k_ => some k_ ≠ (v446 : Value).ownBlock ∧ some k_ ≠ ((.slice Ao28 t462.length co28) : Value).ownBlock) v467 t466) ∧ Aside0 (Kd.R k157 157 wc w.heap.size (fun _ => True) (.slice Ao27 t459.length co27) t459) ∧ Aside0 (Kd.R (Kd.int .u8) 5 wc w.heap.size (fun k_ => some k_ ≠ (v446 : Value).ownBlock ∧ some k_ ≠ (v467 : Value).ownBlock) (.slice Ao28 t462.length co28) t462) ∧ Aside0 (wc.heap[gb427]? = some (.cells #[.int .i64 a0_0, .int .i64 a0_1, .int .i64 a0_2, .int .i64 a0_3, .int .i64 a0_4, .int .i64 a0_5, .int .i64 a0_6, .bool a0_7, .int .i64 a0_8, .bool a0_9, (.slice A0_10 l0_10.length c0_10), (.slice A0_11 l0_11.length c0_11)] 46 (0, 0))) ∧ Aside0 (wc.heap[gb465]? = some (.cells #[.int .i64 t449, .int .i64 t450, .int .i64 t451, .int .i64 t452, .int .i64 t453, .int .i64 t454, .int .i64 t455, .bool t456, .int .i64 t457, .bool t458, (.slice Ao27 t459.length co27), (.slice Ao28 t462.length co28)] 51 (0, 0))) ∧ Aside0 (Below w.heap.size w wc))
 case first => (
 have H := HC13.out
 clear HC13
 replace H := Option.bind_eq_some_iff.mp H
 obtain ⟨t470, A320, H⟩ := H
 replace H : (if t470 = true then (laws_FnExactEncodeSegment.j0 k a1 a2 t445 t448 t466 t469 (t469 != t448) a0_0 a0_1 a0_2 a0_3 a0_4 a0_5 a0_6 a0_7 a0_8 a0_9 l0_10 l0_11 t449 t450 t451 t452 t453 t454 t455 t456 t457 t458 t459 t462) else (laws_FnExactEncodeSegment.j0 k a1 a2 t445 t448 t466 t469 true a0_0 a0_1 a0_2 a0_3 a0_4 a0_5 a0_6 a0_7 a0_8 a0_9 l0_10 l0_11 t449 t450 t451 t452 t453 t454 t455 t456 t457 t458 t459 t462)) = some r := H
 have A32 := Aside0.mk A320
 clear A320
 by_cases c33 : t470 = true
 {
 subst c33
 have H1 : (laws_FnExactEncodeSegment.j0 k a1 a2 t445 t448 t466 t469 (t469 != t448) a0_0 a0_1 a0_2 a0_3 a0_4 a0_5 a0_6 a0_7 a0_8 a0_9 l0_10 l0_11 t449 t450 t451 t452 t453 t454 t455 t456 t457 t458 t459 t462) = some r := by rw [if_pos rfl] at H; exact H
 clear H
 have H := H1
 clear H1
 have H' := Aside0.mk H
 clear H
 obtain ⟨Ao34, co34, eo34⟩ := Kd.R_slice HO468.out
 subst eo34
 obtain ⟨Ao35, co35, eo35⟩ := Kd.R_slice HO447.out
 subst eo35
 go_wp2_with (first | ((with_reducible refine gate_callee (f := 62) rfl ?_); refine goesL_ (some 42) rfl rfl Try.func62 (by kernel_rfl) rfl #[.slice Ao34 t466.length co34, .slice Ao35 t445.length co35] rfl wT ?_; (with_reducible refine (laws_eqByteS.calls k _ _ t466 _ _ t445 true _ ?side1 ?side2 ?side3 ?side4 A32.out).mono ?_); (case side1 => exact Ch HO468); (case side2 => exact (Kd.R_reads' HO468.out).2.1); (case side3 => exact Ch HO447); (case side4 => exact (Kd.R_reads' HO447.out).2.1); rintro e w' ⟨rfl, ⟨nd, rfl⟩⟩; refine ⟨_, rfl, ?_⟩))
 go_meet
 case rel => exact ⟨_, ((t469 != t448)), (by first | rfl | (simp; done) | (simp [*]; done)), H', ⟨by first | omega | exact Nat.le_refl _⟩, ⟨Kd.R_mono (Rh HO447) (fun _ hk => ⟨hk.2, hk.1.2⟩)⟩, ⟨Kd.R_mono (Rh HO468) (fun _ hk => ⟨hk.1.2, hk.2⟩)⟩, ⟨Kd.R_mono (Rh HO461) (fun _ hk => trivial)⟩, ⟨Kd.R_mono (Rh HO464) (fun _ hk => ⟨hk.1.2, hk.2⟩)⟩, ⟨Bh BK427⟩, ⟨Bh BK465⟩, ⟨wB⟩⟩
 }
 {
 replace c33 := Bool.eq_false_iff.mpr c33
 subst c33
 have H1 : (laws_FnExactEncodeSegment.j0 k a1 a2 t445 t448 t466 t469 true a0_0 a0_1 a0_2 a0_3 a0_4 a0_5 a0_6 a0_7 a0_8 a0_9 l0_10 l0_11 t449 t450 t451 t452 t453 t454 t455 t456 t457 t458 t459 t462) = some r := by rw [if_neg (show ¬ (false = true) by decide)] at H; exact H
 clear H
 have H := H1
 clear H1
 have H' := Aside0.mk H
 clear H
 obtain ⟨Ao36, co36, eo36⟩ := Kd.R_slice HO468.out
 subst eo36
 obtain ⟨Ao37, co37, eo37⟩ := Kd.R_slice HO447.out
 subst eo37
 go_wp2_with (first | ((with_reducible refine gate_callee (f := 62) rfl ?_); refine goesL_ (some 42) rfl rfl Try.func62 (by kernel_rfl) rfl #[.slice Ao36 t466.length co36, .slice Ao37 t445.length co37] rfl wT ?_; (with_reducible refine (laws_eqByteS.calls k _ _ t466 _ _ t445 false _ ?side1 ?side2 ?side3 ?side4 A32.out).mono ?_); (case side1 => exact Ch HO468); (case side2 => exact (Kd.R_reads' HO468.out).2.1); (case side3 => exact Ch HO447); (case side4 => exact (Kd.R_reads' HO447.out).2.1); rintro e w' ⟨rfl, ⟨nd, rfl⟩⟩; refine ⟨_, rfl, ?_⟩))
 go_meet
 case rel => exact ⟨_, (true), (by first | rfl | (simp; done) | (simp [*]; done)), H', ⟨by first | omega | exact Nat.le_refl _⟩, ⟨Kd.R_mono (Rh HO447) (fun _ hk => ⟨hk.2, hk.1.2⟩)⟩, ⟨Kd.R_mono (Rh HO468) (fun _ hk => ⟨hk.1.2, hk.2⟩)⟩, ⟨Kd.R_mono (Rh HO461) (fun _ hk => trivial)⟩, ⟨Kd.R_mono (Rh HO464) (fun _ hk => ⟨hk.1.2, hk.2⟩)⟩, ⟨Bh BK427⟩, ⟨Bh BK465⟩, ⟨wB⟩⟩
 }
 )
 case rest => (
 clear HC13
 try clear c1
 try clear c2
 try clear p2
 try clear c3
 try clear c5
 try clear c5b0
 try clear c6
 try clear c13
 try clear c25
 try clear c29
 try clear c31
 try clear c33
 try clear hcz15_0 hcz15_1 hcz15_10 hcz15_11 hcz15_2 hcz15_3 hcz15_4 hcz15_5 hcz15_6 hcz15_7 hcz15_8 hcz15_9 hfz15_0 hfz15_1 hfz15_10 hfz15_11 hfz15_2 hfz15_3 hfz15_4 hfz15_5 hfz15_6 hfz15_7 hfz15_8 hfz15_9
 try clear hcz17_0 hcz17_1 hcz17_10 hcz17_11 hcz17_2 hcz17_3 hcz17_4 hcz17_5 hcz17_6 hcz17_7 hcz17_8 hcz17_9 hfz17_0 hfz17_1 hfz17_10 hfz17_11 hfz17_2 hfz17_3 hfz17_4 hfz17_5 hfz17_6 hfz17_7 hfz17_8 hfz17_9
 try clear hcz22_0 hcz22_1 hcz22_10 hcz22_11 hcz22_2 hcz22_3 hcz22_4 hcz22_5 hcz22_6 hcz22_7 hcz22_8 hcz22_9 hfz22_0 hfz22_1 hfz22_10 hfz22_11 hfz22_2 hfz22_3 hfz22_4 hfz22_5 hfz22_6 hfz22_7 hfz22_8 hfz22_9
 try clear hcz26_0 hcz26_1 hcz26_10 hcz26_11 hcz26_2 hcz26_3 hcz26_4 hcz26_5 hcz26_6 hcz26_7 hcz26_8 hcz26_9 hfz26_0 hfz26_1 hfz26_10 hfz26_11 hfz26_2 hfz26_3 hfz26_4 hfz26_5 hfz26_6 hfz26_7 hfz26_8 hfz26_9
 try clear hcz30_0 hcz30_1 hcz30_10 hcz30_11 hcz30_2 hcz30_3 hcz30_4 hcz30_5 hcz30_6 hcz30_7 hcz30_8 hcz30_9 hfz30_0 hfz30_1 hfz30_10 hfz30_11 hfz30_2 hfz30_3 hfz30_4 hfz30_5 hfz30_6 hfz30_7 hfz30_8 hfz30_9
 try clear hcz7_0 hcz7_1 hcz7_10 hcz7_11 hcz7_2 hcz7_3 hcz7_4 hcz7_5 hcz7_6 hcz7_7 hcz7_8 hcz7_9 hfz7_0 hfz7_1 hfz7_10 hfz7_11 hfz7_2 hfz7_3 hfz7_4 hfz7_5 hfz7_6 hfz7_7 hfz7_8 hfz7_9
 obtain ⟨kq, x48_12, rfl, HA, HJ12, HO_8, HO_11, HO_466010, HO_466011, BK427, BK465, HB⟩ := hcut
 cases kq with
 | zero => exact absurd HA.out (by simp [laws_FnExactEncodeSegment.j0])
 | succ kj12 => {
 have H := HA.out
 clear HA
 simp only [laws_FnExactEncodeSegment.j0] at H
 by_cases c38 : x48_12 = true
 {
 subst c38
 have H1 : (some false) = some r := by rw [if_pos rfl] at H; exact H
 clear H
 have H := H1
 clear H1
 obtain rfl := Option.some.inj H
 go_wp2
 go_ret
 exact ⟨by first | rfl | (simp [errW_none, errW_some] <;> rfl) | (simp [*, errW_none, errW_some] <;> rfl), wB⟩
 }
 {
 replace c38 := Bool.eq_false_iff.mpr c38
 subst c38
 have H1 : ((laws_toSegment.f kj12 a0_0 a0_1 a0_2 a0_3 a0_4 a0_5 a0_6 a0_7 a0_8 a0_9 l0_10 l0_11).bind fun bt471 => ((laws_eqSegment.f kj12 t449 t450 t451 t452 t453 t454 t455 t456 t457 t458 t459 t462 bt471.1 bt471.2.1 bt471.2.2.1 bt471.2.2.2.1 bt471.2.2.2.2.1 bt471.2.2.2.2.2.1 bt471.2.2.2.2.2.2.1 bt471.2.2.2.2.2.2.2.1 bt471.2.2.2.2.2.2.2.2.1 bt471.2.2.2.2.2.2.2.2.2.1 bt471.2.2.2.2.2.2.2.2.2.2.1 bt471.2.2.2.2.2.2.2.2.2.2.2).bind fun t487 => (if t487 = true then ((laws_markSegment.f kj12 t449 t450 t451 t452 t453 t454 t455 t456 t457 t458 t459 t462 1).bind fun bt488 => (if bt488.1 < 0 then (laws_FnExactEncodeSegment.j1 kj12 a1 a2 t445 t448 t466 true a0_0 a0_1 a0_2 a0_3 a0_4 a0_5 a0_6 a0_7 a0_8 a0_9 l0_10 l0_11) else ((laws_eqByteS.f kj12 t466 t445).bind fun t491 => (if t491 = true then (laws_FnExactEncodeSegment.j1 kj12 a1 a2 t445 t448 t466 (t469 != t448) a0_0 a0_1 a0_2 a0_3 a0_4 a0_5 a0_6 a0_7 a0_8 a0_9 l0_10 l0_11) else (laws_FnExactEncodeSegment.j1 kj12 a1 a2 t445 t448 t466 true a0_0 a0_1 a0_2 a0_3 a0_4 a0_5 a0_6 a0_7 a0_8 a0_9 l0_10 l0_11))))) else (some false)))) = some r := by rw [if_neg (show ¬ (false = true) by decide)] at H; exact H
 clear H
 have H := H1
 clear H1
 replace H := Option.bind_eq_some_iff.mp H
 obtain ⟨⟨t471, t472, t473, t474, t475, t476, t477, t478, t479, t480, t481, t484⟩, A390, H⟩ := H
 replace H : ((laws_eqSegment.f kj12 t449 t450 t451 t452 t453 t454 t455 t456 t457 t458 t459 t462 t471 t472 t473 t474 t475 t476 t477 t478 t479 t480 t481 t484).bind fun t487 => (if t487 = true then ((laws_markSegment.f kj12 t449 t450 t451 t452 t453 t454 t455 t456 t457 t458 t459 t462 1).bind fun bt488 => (if bt488.1 < 0 then (laws_FnExactEncodeSegment.j1 kj12 a1 a2 t445 t448 t466 true a0_0 a0_1 a0_2 a0_3 a0_4 a0_5 a0_6 a0_7 a0_8 a0_9 l0_10 l0_11) else ((laws_eqByteS.f kj12 t466 t445).bind fun t491 => (if t491 = true then (laws_FnExactEncodeSegment.j1 kj12 a1 a2 t445 t448 t466 (t469 != t448) a0_0 a0_1 a0_2 a0_3 a0_4 a0_5 a0_6 a0_7 a0_8 a0_9 l0_10 l0_11) else (laws_FnExactEncodeSegment.j1 kj12 a1 a2 t445 t448 t466 true a0_0 a0_1 a0_2 a0_3 a0_4 a0_5 a0_6 a0_7 a0_8 a0_9 l0_10 l0_11))))) else (some false))) = some r := H
 have A39 := Aside0.mk A390
 clear A390
 replace H := Option.bind_eq_some_iff.mp H
 obtain ⟨t487, A400, H⟩ := H
 replace H : (if t487 = true then ((laws_markSegment.f kj12 t449 t450 t451 t452 t453 t454 t455 t456 t457 t458 t459 t462 1).bind fun bt488 => (if bt488.1 < 0 then (laws_FnExactEncodeSegment.j1 kj12 a1 a2 t445 t448 t466 true a0_0 a0_1 a0_2 a0_3 a0_4 a0_5 a0_6 a0_7 a0_8 a0_9 l0_10 l0_11) else ((laws_eqByteS.f kj12 t466 t445).bind fun t491 => (if t491 = true then (laws_FnExactEncodeSegment.j1 kj12 a1 a2 t445 t448 t466 (t469 != t448) a0_0 a0_1 a0_2 a0_3 a0_4 a0_5 a0_6 a0_7 a0_8 a0_9 l0_10 l0_11) else (laws_FnExactEncodeSegment.j1 kj12 a1 a2 t445 t448 t466 true a0_0 a0_1 a0_2 a0_3 a0_4 a0_5 a0_6 a0_7 a0_8 a0_9 l0_10 l0_11))))) else (some false)) = some r := H
 have A40 := Aside0.mk A400
 clear A400
 by_cases c41 : t487 = true
 {
 subst c41
 have H1 : ((laws_markSegment.f kj12 t449 t450 t451 t452 t453 t454 t455 t456 t457 t458 t459 t462 1).bind fun bt488 => (if bt488.1 < 0 then (laws_FnExactEncodeSegment.j1 kj12 a1 a2 t445 t448 t466 true a0_0 a0_1 a0_2 a0_3 a0_4 a0_5 a0_6 a0_7 a0_8 a0_9 l0_10 l0_11) else ((laws_eqByteS.f kj12 t466 t445).bind fun t491 => (if t491 = true then (laws_FnExactEncodeSegment.j1 kj12 a1 a2 t445 t448 t466 (t469 != t448) a0_0 a0_1 a0_2 a0_3 a0_4 a0_5 a0_6 a0_7 a0_8 a0_9 l0_10 l0_11) else (laws_FnExactEncodeSegment.j1 kj12 a1 a2 t445 t448 t466 true a0_0 a0_1 a0_2 a0_3 a0_4 a0_5 a0_6 a0_7 a0_8 a0_9 l0_10 l0_11))))) = some r := by rw [if_pos rfl] at H; exact H
 clear H
 have H := H1
 clear H1
 replace H := Option.bind_eq_some_iff.mp H
 obtain ⟨⟨t488, t489, t490⟩, A420, H⟩ := H
 replace H : (if t488 < 0 then (laws_FnExactEncodeSegment.j1 kj12 a1 a2 t445 t448 t466 true a0_0 a0_1 a0_2 a0_3 a0_4 a0_5 a0_6 a0_7 a0_8 a0_9 l0_10 l0_11) else ((laws_eqByteS.f kj12 t466 t445).bind fun t491 => (if t491 = true then (laws_FnExactEncodeSegment.j1 kj12 a1 a2 t445 t448 t466 (t469 != t448) a0_0 a0_1 a0_2 a0_3 a0_4 a0_5 a0_6 a0_7 a0_8 a0_9 l0_10 l0_11) else (laws_FnExactEncodeSegment.j1 kj12 a1 a2 t445 t448 t466 true a0_0 a0_1 a0_2 a0_3 a0_4 a0_5 a0_6 a0_7 a0_8 a0_9 l0_10 l0_11)))) = some r := H
 have A42 := Aside0.mk A420
 clear A420
 have HC43 := Aside0.mk H
 clear H
 try go_wp2
 have n0_ := Aside0.mk (Kd.R_drew HO_8.out)
 have n1_ := Aside0.mk (Kd.R_drew HO_11.out)
 have n2_ := Aside0.mk (Kd.R_drew HO_466010.out)
 have n3_ := Aside0.mk (Kd.R_drew HO_466011.out)
 have n4_ := Aside0.mk (blk_drew BK427.out)
 have n5_ := Aside0.mk (blk_drew BK465.out)
 have n6_ := Aside0.mk (below_drew1 HB.out)
 clear HO_8
 clear HO_11
 clear HO_466010
 clear HO_466011
 clear BK427
 clear BK465
 clear HB
 have HO_8 := n0_
 have HO_11 := n1_
 have HO_466010 := n2_
 have HO_466011 := n3_
 have BK427 := n4_
 have BK465 := n5_
 have HB := n6_
 clear n0_ n1_ n2_ n3_ n4_ n5_ n6_
 refine start_ (n := 5) (S := fun w' => w'.cell? ⟨gb465, 0, none⟩ = some (.int .i64 t449) ∧ w'.cell? ⟨gb465, 1, none⟩ = some (.int .i64 t450) ∧ w'.cell? ⟨gb465, 2, none⟩ = some (.int .i64 t451) ∧ w'.cell? ⟨gb465, 3, none⟩ = some (.int .i64 t452) ∧ w'.cell? ⟨gb465, 4, none⟩ = some (.int .i64 t453) ∧ w'.cell? ⟨gb465, 5, none⟩ = some (.int .i64 t454) ∧ w'.cell? ⟨gb465, 6, none⟩ = some (.int .i64 t455) ∧ w'.cell? ⟨gb465, 7, none⟩ = some (.bool t456) ∧ w'.cell? ⟨gb465, 8, none⟩ = some (.int .i64 t457) ∧ w'.cell? ⟨gb465, 9, none⟩ = some (.bool t458) ∧ w'.cell? ⟨gb465, 10, none⟩ = some (.slice Ao27 t459.length co27) ∧ w'.cell? ⟨gb465, 11, none⟩ = some (.slice Ao28 t462.length co28) ∧ w'.cell? ⟨gb427, 0, none⟩ = some (.int .i64 a0_0) ∧ w'.cell? ⟨gb427, 1, none⟩ = some (.int .i64 a0_1) ∧ w'.cell? ⟨gb427, 2, none⟩ = some (.int .i64 a0_2) ∧ w'.cell? ⟨gb427, 3, none⟩ = some (.int .i64 a0_3) ∧ w'.cell? ⟨gb427, 4, none⟩ = some (.int .i64 a0_4) ∧ w'.cell? ⟨gb427, 5, none⟩ = some (.int .i64 a0_5) ∧ w'.cell? ⟨gb427, 6, none⟩ = some (.int .i64 a0_6) ∧ w'.cell? ⟨gb427, 7, none⟩ = some (.bool a0_7) ∧ w'.cell? ⟨gb427, 8, none⟩ = some (.int .i64 a0_8) ∧ w'.cell? ⟨gb427, 9, none⟩ = some (.bool a0_9) ∧ w'.cell? ⟨gb427, 10, none⟩ = some (.slice A0_10 l0_10.length c0_10) ∧ w'.cell? ⟨gb427, 11, none⟩ = some (.slice A0_11 l0_11.length c0_11)) (ds := []) #[false, false, false, false, false] (by kernel_rfl) rfl rfl ⟨(blk_cell BK465.out 0).trans rfl, (blk_cell BK465.out 1).trans rfl, (blk_cell BK465.out 2).trans rfl, (blk_cell BK465.out 3).trans rfl, (blk_cell BK465.out 4).trans rfl, (blk_cell BK465.out 5).trans rfl, (blk_cell BK465.out 6).trans rfl, (blk_cell BK465.out 7).trans rfl, (blk_cell BK465.out 8).trans rfl, (blk_cell BK465.out 9).trans rfl, (blk_cell BK465.out 10).trans rfl, (blk_cell BK465.out 11).trans rfl, (blk_cell BK427.out 0).trans rfl, (blk_cell BK427.out 1).trans rfl, (blk_cell BK427.out 2).trans rfl, (blk_cell BK427.out 3).trans rfl, (blk_cell BK427.out 4).trans rfl, (blk_cell BK427.out 5).trans rfl, (blk_cell BK427.out 6).trans rfl, (blk_cell BK427.out 7).trans rfl, (blk_cell BK427.out 8).trans rfl, (blk_cell BK427.out 9).trans rfl, (blk_cell BK427.out 10).trans rfl, (blk_cell BK427.out 11).trans rfl⟩ (fun hHeld => ?_)
 generalize wc.drew = w44 at HO_8 HO_11 HO_466010 HO_466011 BK427 BK465 HB hHeld ⊢
 refine take_ (i := 0) (N := some 49) (v := ?_) (a' := ?_) #[true, false, false, false, false] rfl rfl (by kernel_rfl) (fun _ _ _ h => h) (Or.inl ⟨by rfl, ?_⟩) hHeld ?_ ?_
 rotate_left
 {
 rintro w' ⟨s0, s1, s2, s3, s4, s5, s6, s7, s8, s9, s10, s11, s12, s13, s14, s15, s16, s17, s18, s19, s20, s21, s22, s23⟩
 go_simp
 with_reducible rfl
 }
 rotate_left
 {
 simp only [Act.put, List.setIfInBounds_toArray, List.set_cons_zero, List.set_cons_succ, i64_w, i32_w]
 rfl
 }
 refine take_ (i := 1) (N := some 50) (v := ?_) (a' := ?_) #[true, true, false, false, false] rfl rfl (by kernel_rfl) (fun _ _ _ h => h) (Or.inl ⟨by rfl, ?_⟩) hHeld ?_ ?_
 rotate_left
 {
 rintro w' ⟨s0, s1, s2, s3, s4, s5, s6, s7, s8, s9, s10, s11, s12, s13, s14, s15, s16, s17, s18, s19, s20, s21, s22, s23⟩
 go_simp
 with_reducible rfl
 }
 rotate_left
 {
 simp only [Act.put, List.setIfInBounds_toArray, List.set_cons_zero, List.set_cons_succ, i64_w, i32_w]
 rfl
 }
 refine one_ (i := 2) (N := some 51) #[true, true, true, false, false] rfl rfl (by kernel_rfl) (by decide) (fun K hK => ?_)
 refine goes_ Try.func31 (by kernel_rfl) rfl #[.agg #[.int .i64 a0_0, .int .i64 a0_1, .int .i64 a0_2, .int .i64 a0_3, .int .i64 a0_4, .int .i64 a0_5, .int .i64 a0_6, .bool a0_7, .int .i64 a0_8, .bool a0_9, .slice A0_10 l0_10.length c0_10, .slice A0_11 l0_11.length c0_11]] (by rfl) rfl rfl wT ?_
 with_reducible refine (laws_toSegment.calls kj12 a0_0 a0_1 a0_2 a0_3 a0_4 a0_5 a0_6 a0_7 a0_8 a0_9 _ _ l0_10 _ _ l0_11 t471 t472 t473 t474 t475 t476 t477 t478 t479 t480 t481 t484 _ ?side1 ?side2 ?side3 ?side4 A39.out).mono ?_
 (case side1 => exact Kd.C_below HR0_10.out wB)
 (case side2 => exact HC0_10.out)
 (case side3 => exact Kd.C_below HR0_11.out wB)
 (case side4 => exact HC0_11.out)
 rintro e w45 ⟨v482, v485, rfl, ho0, ho1, hb⟩
 refine ⟨_, rfl, ?_⟩
 have n0_ := Aside0.mk (Kd.R_elder' (Rh HO_8) (Kd.R_base ho1) hb)
 have n1_ := Aside0.mk (Kd.R_elder' (Rh HO_11) (Kd.R_base ho1) hb)
 have n2_ := Aside0.mk (Kd.R_elder' (Rh HO_466010) (Kd.R_base ho0) hb)
 have n3_ := Aside0.mk (Kd.R_elder' (Rh HO_466011) (Kd.R_base ho1) hb)
 have n4_ := Aside0.mk (Kd.R_lower (Kd.R_new' ho0 (Kd.R_lt (Rh HO_466010))) (below_size wB))
 have n5_ := Aside0.mk (Kd.R_lower (Kd.R_new' (Kd.R_new' (Kd.R_new' ho1 (Kd.R_lt (Rh HO_8))) (Kd.R_lt (Rh HO_11))) (Kd.R_lt (Rh HO_466011))) (below_size wB))
 have n6_ := Aside0.mk (blk_below (Bh BK427) hb)
 have n7_ := Aside0.mk (blk_below (Bh BK465) hb)
 have n8_ := Aside0.mk (below_step wB hb)
 clear HO_8
 clear HO_11
 clear HO_466010
 clear HO_466011
 clear BK427
 clear BK465
 clear HB
 have HO_8 := n0_
 have HO_11 := n1_
 have HO_466010 := n2_
 have HO_466011 := n3_
 have HO483 := n4_
 have HO486 := n5_
 have BK427 := n6_
 have BK465 := n7_
 have HB := n8_
 clear n0_ n1_ n2_ n3_ n4_ n5_ n6_ n7_ n8_
 (try clear hb)
 (try clear hb2)
 (try clear hk)
 (try clear hi)
 (try clear ho0)
 (try clear ho1)
 obtain ⟨Ao46, co46, eo46⟩ := Kd.R_slice HO483.out
 (first | subst eo46 | (injection eo46 with f1_ f2_ f3_; have f4_ := f1_.symm; have f5_ := f3_.symm; clear f1_ f2_ f3_; subst f4_; subst f5_))
 obtain ⟨Ao47, co47, eo47⟩ := Kd.R_slice HO486.out
 (first | subst eo47 | (injection eo47 with f1_ f2_ f3_; have f4_ := f1_.symm; have f5_ := f3_.symm; clear f1_ f2_ f3_; subst f4_; subst f5_))
 refine hK.out _ _ ⟨(blk_cell BK465.out 0).trans rfl, (blk_cell BK465.out 1).trans rfl, (blk_cell BK465.out 2).trans rfl, (blk_cell BK465.out 3).trans rfl, (blk_cell BK465.out 4).trans rfl, (blk_cell BK465.out 5).trans rfl, (blk_cell BK465.out 6).trans rfl, (blk_cell BK465.out 7).trans rfl, (blk_cell BK465.out 8).trans rfl, (blk_cell BK465.out 9).trans rfl, (blk_cell BK465.out 10).trans rfl, (blk_cell BK465.out 11).trans rfl, (blk_cell BK427.out 0).trans rfl, (blk_cell BK427.out 1).trans rfl, (blk_cell BK427.out 2).trans rfl, (blk_cell BK427.out 3).trans rfl, (blk_cell BK427.out 4).trans rfl, (blk_cell BK427.out 5).trans rfl, (blk_cell BK427.out 6).trans rfl, (blk_cell BK427.out 7).trans rfl, (blk_cell BK427.out 8).trans rfl, (blk_cell BK427.out 9).trans rfl, (blk_cell BK427.out 10).trans rfl, (blk_cell BK427.out 11).trans rfl⟩ (fun hHeld => ?_)
 clear hK K
 refine norm_ (a' := ?_) ?_ ?_
 rotate_left
 {
 show Act.put _ (some 51) _ = _
 simp only [Act.put, List.setIfInBounds_toArray, List.set_cons_zero, List.set_cons_succ, i64_w, i32_w]
 rfl
 }
 refine one_ (i := 3) (N := some 52) #[true, true, true, true, false] rfl rfl (by kernel_rfl) (by decide) (fun K hK => ?_)
 refine goes_ Try.func33 (by kernel_rfl) rfl #[.agg #[.int .i64 t449, .int .i64 t450, .int .i64 t451, .int .i64 t452, .int .i64 t453, .int .i64 t454, .int .i64 t455, .bool t456, .int .i64 t457, .bool t458, .slice Ao27 t459.length co27, .slice Ao28 t462.length co28], .agg #[.int .i64 t471, .int .i64 t472, .int .i64 t473, .int .i64 t474, .int .i64 t475, .int .i64 t476, .int .i64 t477, .bool t478, .int .i64 t479, .bool t480, .slice Ao46 t481.length co46, .slice Ao47 t484.length co47]] (by rfl) rfl rfl wT ?_
 with_reducible refine (laws_eqSegment.calls kj12 t449 t450 t451 t452 t453 t454 t455 t456 t457 t458 _ _ t459 _ _ t462 t471 t472 t473 t474 t475 t476 t477 t478 t479 t480 _ _ t481 _ _ t484 true _ ?side1 ?side2 ?side3 ?side4 ?side5 ?side6 ?side7 ?side8 A40.out).mono ?_
 (case side1 => exact Ch HO_466010)
 (case side2 => exact (Kd.R_reads' HO_466010.out).2.1)
 (case side3 => exact Ch HO_466011)
 (case side4 => exact (Kd.R_reads' HO_466011.out).2.1)
 (case side5 => exact Ch HO483)
 (case side6 => exact (Kd.R_reads' HO483.out).2.1)
 (case side7 => exact Ch HO486)
 (case side8 => exact (Kd.R_reads' HO486.out).2.1)
 rintro e w48 ⟨rfl, hb⟩
 refine ⟨_, rfl, ?_⟩
 have n0_ := Aside0.mk (Kd.R_below (Rh HO_8) hb)
 have n1_ := Aside0.mk (Kd.R_below (Rh HO_11) hb)
 have n2_ := Aside0.mk (Kd.R_below (Rh HO_466010) hb)
 have n3_ := Aside0.mk (Kd.R_below (Rh HO_466011) hb)
 have n4_ := Aside0.mk (Kd.R_below (Rh HO483) hb)
 have n5_ := Aside0.mk (Kd.R_below (Rh HO486) hb)
 have n6_ := Aside0.mk (blk_below (Bh BK427) hb)
 have n7_ := Aside0.mk (blk_below (Bh BK465) hb)
 have n8_ := Aside0.mk (below_step wB hb)
 clear HO_8
 clear HO_11
 clear HO_466010
 clear HO_466011
 clear HO483
 clear HO486
 clear BK427
 clear BK465
 clear HB
 have HO_8 := n0_
 have HO_11 := n1_
 have HO_466010 := n2_
 have HO_466011 := n3_
 have HO483 := n4_
 have HO486 := n5_
 have BK427 := n6_
 have BK465 := n7_
 have HB := n8_
 clear n0_ n1_ n2_ n3_ n4_ n5_ n6_ n7_ n8_
 (try clear hb)
 (try clear hb2)
 (try clear hk)
 (try clear hi)
 refine hK.out _ _ ⟨(blk_cell BK465.out 0).trans rfl, (blk_cell BK465.out 1).trans rfl, (blk_cell BK465.out 2).trans rfl, (blk_cell BK465.out 3).trans rfl, (blk_cell BK465.out 4).trans rfl, (blk_cell BK465.out 5).trans rfl, (blk_cell BK465.out 6).trans rfl, (blk_cell BK465.out 7).trans rfl, (blk_cell BK465.out 8).trans rfl, (blk_cell BK465.out 9).trans rfl, (blk_cell BK465.out 10).trans rfl, (blk_cell BK465.out 11).trans rfl, (blk_cell BK427.out 0).trans rfl, (blk_cell BK427.out 1).trans rfl, (blk_cell BK427.out 2).trans rfl, (blk_cell BK427.out 3).trans rfl, (blk_cell BK427.out 4).trans rfl, (blk_cell BK427.out 5).trans rfl, (blk_cell BK427.out 6).trans rfl, (blk_cell BK427.out 7).trans rfl, (blk_cell BK427.out 8).trans rfl, (blk_cell BK427.out 9).trans rfl, (blk_cell BK427.out 10).trans rfl, (blk_cell BK427.out 11).trans rfl⟩ (fun hHeld => ?_)
 clear hK K
 refine norm_ (a' := ?_) ?_ ?_
 rotate_left
 {
 show Act.put _ (some 52) _ = _
 simp only [Act.put, List.setIfInBounds_toArray, List.set_cons_zero, List.set_cons_succ, i64_w, i32_w]
 rfl
 }
 refine pure_ (i := 4) (N := some 53) (v := ?_) (a' := ?_) #[true, true, true, true, true] rfl rfl (by kernel_rfl) (fun _ _ _ h => h) (Or.inl ⟨by rfl, ?_⟩) ?_ ?_
 rotate_left
 {
 intro w'
 go_simp
 with_reducible rfl
 }
 rotate_left
 {
 simp only [Act.put, List.setIfInBounds_toArray, List.set_cons_zero, List.set_cons_succ, i64_w, i32_w]
 rfl
 }
 refine done_ (by kernel_rfl) ?_
 have hnb49 := NB465_427.out
 have hnc49 := NB427_465.out
 obtain ⟨⟨hcz50_0, hcz50_1, hcz50_2, hcz50_3, hcz50_4, hcz50_5, hcz50_6, hcz50_7, hcz50_8, hcz50_9, hcz50_10, hcz50_11⟩, hfz50_0, hfz50_1, hfz50_2, hfz50_3, hfz50_4, hfz50_5, hfz50_6, hfz50_7, hfz50_8, hfz50_9, hfz50_10, hfz50_11⟩ := cells12 BK465.out
 go_upto_region 14 with (first | ((with_reducible refine gate_callee (f := 68) rfl ?_); refine goesL_ (some 56) rfl rfl Try.func68 (by kernel_rfl) rfl #[.agg #[.int .i64 t449, .int .i64 t450, .int .i64 t451, .int .i64 t452, .int .i64 t453, .int .i64 t454, .int .i64 t455, .bool t456, .int .i64 t457, .bool t458, .slice Ao27 t459.length co27, .slice Ao28 t462.length co28], .int .i64 1] rfl wT ?_; (with_reducible refine (laws_markSegment.calls kj12 t449 t450 t451 t452 t453 t454 t455 t456 t457 t458 (fun k_ => some k_ = (.slice Ao27 t459.length co27 : Value).ownBlock) (.slice Ao27 t459.length co27) t459 (fun k_ => some k_ = (.slice Ao28 t462.length co28 : Value).ownBlock) (.slice Ao28 t462.length co28) t462 1 t488 t489 t490 w _ ?side1 ?side2 ?side3 A42.out).mono ?_); (case side1 => repeat (first | (with_reducible first | exact HB.out | apply below_alloc | apply pw_below_drewN | apply below_drew1 | refine below_set ?_ GE427.out | refine below_set ?_ GE465.out) | exact HB.out)); (case side2 => exact Kd.R_tight rfl HO_466010.out); (case side3 => exact Kd.R_tight rfl HO_466011.out); rintro e w51 ⟨rfl, hy0, hy1, hb, hkp⟩; refine ⟨_, rfl, ?_⟩; have n0_ := Aside0.mk (Kd.R_mono (ok' := fun k_ => some k_ ≠ (v467 : Value).ownBlock ∧ some k_ ≠ (.slice Ao28 t462.length co28 : Value).ownBlock ∧ some k_ ≠ (.slice Ao47 t484.length co47 : Value).ownBlock) (Kd.R_keptB ((Kd.R_apart' HO_8.out (Kd.R_typed HO_466010.out) (by decide))) hkp (fun k_ hk_ hs_ => Or.elim hs_ (fun e_ => (hk_.2) e_) (fun e_ => (hk_.1.1.2) e_))) (fun k_ hk_ => ⟨hk_.1.1.1.1, hk_.1.1.1.2, hk_.1.1.2⟩)); have n1_ := Aside0.mk (Kd.R_mono (ok' := fun k_ => some k_ ≠ (v446 : Value).ownBlock ∧ some k_ ≠ (.slice Ao28 t462.length co28 : Value).ownBlock ∧ some k_ ≠ (.slice Ao47 t484.length co47 : Value).ownBlock) (Kd.R_keptB ((Kd.R_apart' HO_11.out (Kd.R_typed HO_466010.out) (by decide))) hkp (fun k_ hk_ hs_ => Or.elim hs_ (fun e_ => (hk_.2) e_) (fun e_ => (hk_.1.1.2) e_))) (fun k_ hk_ => ⟨hk_.1.1.1.1, hk_.1.1.1.2, hk_.1.1.2⟩)); have n2_ := Aside0.mk (Kd.R_reok rfl hy0 (fun k_ e_ => HO_466010.out.1 k_ e_)); have n3_ := Aside0.mk (Kd.R_reok rfl hy1 (fun k_ e_ => HO_466011.out.1 k_ e_)); have n4_ := Aside0.mk (blk_kept (Bh BK427) hkp (fun hs_ => Or.elim hs_ (fun e_ => (fun e_ => (Kd.R_ne HO_466010.out BK427.out (by decide)) e_) e_) (fun e_ => (fun e_ => (Kd.R_ne HO_466011.out BK427.out (by decide)) e_) e_))); have n5_ := Aside0.mk (blk_kept (Bh BK465) hkp (fun hs_ => Or.elim hs_ (fun e_ => (fun e_ => (Kd.R_ne HO_466010.out BK465.out (by decide)) e_) e_) (fun e_ => (fun e_ => (Kd.R_ne HO_466011.out BK465.out (by decide)) e_) e_))); have n6_ := Aside0.mk (Kd.R_mono (ok' := fun k_ => some k_ ≠ (.slice Ao27 t459.length co27 : Value).ownBlock) (Kd.R_keptB ((Kd.R_apart' HO483.out (Kd.R_typed HO_466011.out) (by decide))) hkp (fun k_ hk_ hs_ => Or.elim hs_ (fun e_ => (hk_.1.2) e_) (fun e_ => (hk_.2) e_))) (fun k_ hk_ => hk_.1.1.2)); have n7_ := Aside0.mk (Kd.R_mono (ok' := fun k_ => some k_ ≠ (v446 : Value).ownBlock ∧ some k_ ≠ (v467 : Value).ownBlock ∧ some k_ ≠ (.slice Ao28 t462.length co28 : Value).ownBlock) (Kd.R_keptB ((Kd.R_apart' HO486.out (Kd.R_typed HO_466010.out) (by decide))) hkp (fun k_ hk_ hs_ => Or.elim hs_ (fun e_ => (hk_.2) e_) (fun e_ => (hk_.1.2) e_))) (fun k_ hk_ => ⟨hk_.1.1.1.1.2, hk_.1.1.1.2, hk_.1.1.2⟩)); have n8_ := Aside0.mk (hb); clear HO_8; clear HO_11; clear HO_466010; clear HO_466011; clear BK427; clear BK465; clear HO483; clear HO486; clear HB; have HO_8 := n0_; have HO_11 := n1_; have HO_466010 := n2_; have HO_466011 := n3_; have BK427 := n4_; have BK465 := n5_; have HO483 := n6_; have HO486 := n7_; have HB := n8_; clear n0_ n1_ n2_ n3_ n4_ n5_ n6_ n7_ n8_; (try clear hb); (try clear hkp); (try clear hy0); (try clear hy1)))
 (try simp only [Act.put, List.setIfInBounds_toArray, List.set_cons_zero, List.set_cons_succ])
 go_cut [69] (fun v69 wc => ∃ (kq : Nat) (x69_42 : Bool), v69 = .bool x69_42 ∧ Aside0 (laws_FnExactEncodeSegment.j1 kq a1 a2 t445 t448 t466 x69_42 a0_0 a0_1 a0_2 a0_3 a0_4 a0_5 a0_6 a0_7 a0_8 a0_9 l0_10 l0_11 = some r) ∧ Aside0 (kq ≤ kj12) ∧ Aside0 (Kd.R (Kd.int .u8) 5 wc w.heap.size (fun k_ => some k_ ≠ (v467 : Value).ownBlock ∧ some k_ ≠ ((.slice Ao28 t462.length co28) : Value).ownBlock) v446 t445) ∧ Aside0 (Kd.R (Kd.int .u8) 5 wc w.heap.size (fun k_ => some k_ ≠ (v446 : Value).ownBlock ∧ some k_ ≠ ((.slice Ao28 t462.length co28) : Value).ownBlock) v467 t466) ∧ Aside0 (Kd.R k157 157 wc w.heap.size (fun _ => True) (.slice Ao27 t459.length co27) t489) ∧ Aside0 (Kd.R (Kd.int .u8) 5 wc w.heap.size (fun k_ => some k_ ≠ (v446 : Value).ownBlock ∧ some k_ ≠ (v467 : Value).ownBlock) (.slice Ao28 t462.length co28) t490) ∧ Aside0 (wc.heap[gb427]? = some (.cells #[.int .i64 a0_0, .int .i64 a0_1, .int .i64 a0_2, .int .i64 a0_3, .int .i64 a0_4, .int .i64 a0_5, .int .i64 a0_6, .bool a0_7, .int .i64 a0_8, .bool a0_9, (.slice A0_10 l0_10.length c0_10), (.slice A0_11 l0_11.length c0_11)] 46 (0, 0))) ∧ Aside0 (wc.heap[gb465]? = some (.cells #[.int .i64 t449, .int .i64 t450, .int .i64 t451, .int .i64 t452, .int .i64 t453, .int .i64 t454, .int .i64 t455, .bool t456, .int .i64 t457, .bool t458, (.slice Ao27 t459.length co27), (.slice Ao28 t462.length co28)] 51 (0, 0))) ∧ Aside0 (Below w.heap.size w wc))
 case first => (
 have H := HC43.out
 clear HC43
 by_cases c52 : t488 < 0
 {
 rw [if_pos c52] at H
 have c52b0 : decide (t488 < 0) = true := decide_eq_true c52
 clear c52
 (first | rw [c52b0] | (simp only [i64_w, i32_w]; rw [c52b0]) | skip)
 have H' := Aside0.mk H
 clear H
 go_wp2
 go_meet
 case rel => exact ⟨_, (true), (by first | rfl | (simp; done) | (simp [*]; done)), H', ⟨by have := HJ12.out; first | omega | exact Nat.le_refl _⟩, ⟨Kd.R_mono (Rh HO_8) (fun _ hk => ⟨hk.1, hk.2.1⟩)⟩, ⟨Kd.R_mono (Rh HO_11) (fun _ hk => ⟨hk.1, hk.2.1⟩)⟩, ⟨Kd.R_mono (Rh HO_466010) (fun _ hk => trivial)⟩, ⟨Kd.R_mono (Rh HO_466011) (fun _ hk => ⟨hk.1.1, hk.1.2⟩)⟩, ⟨Bh BK427⟩, ⟨Bh BK465⟩, ⟨wB⟩⟩
 }
 {
 rw [if_neg c52] at H
 have c52b0 : decide (t488 < 0) = false := decide_eq_false c52
 clear c52
 (first | rw [c52b0] | (simp only [i64_w, i32_w]; rw [c52b0]) | skip)
 replace H := Option.bind_eq_some_iff.mp H
 obtain ⟨t491, A530, H⟩ := H
 replace H : (if t491 = true then (laws_FnExactEncodeSegment.j1 kj12 a1 a2 t445 t448 t466 (t469 != t448) a0_0 a0_1 a0_2 a0_3 a0_4 a0_5 a0_6 a0_7 a0_8 a0_9 l0_10 l0_11) else (laws_FnExactEncodeSegment.j1 kj12 a1 a2 t445 t448 t466 true a0_0 a0_1 a0_2 a0_3 a0_4 a0_5 a0_6 a0_7 a0_8 a0_9 l0_10 l0_11)) = some r := H
 have A53 := Aside0.mk A530
 clear A530
 by_cases c54 : t491 = true
 {
 subst c54
 have H1 : (laws_FnExactEncodeSegment.j1 kj12 a1 a2 t445 t448 t466 (t469 != t448) a0_0 a0_1 a0_2 a0_3 a0_4 a0_5 a0_6 a0_7 a0_8 a0_9 l0_10 l0_11) = some r := by rw [if_pos rfl] at H; exact H
 clear H
 have H := H1
 clear H1
 have H' := Aside0.mk H
 clear H
 obtain ⟨Ao55, co55, eo55⟩ := Kd.R_slice HO_11.out
 subst eo55
 obtain ⟨Ao56, co56, eo56⟩ := Kd.R_slice HO_8.out
 subst eo56
 go_wp2_with (first | (go_at_call 62; (with_reducible refine (laws_eqByteS.calls kj12 _ _ t466 _ _ t445 true _ ?side1 ?side2 ?side3 ?side4 A53.out).mono ?_); (case side1 => exact Ch HO_11); (case side2 => exact (Kd.R_reads' HO_11.out).2.1); (case side3 => exact Ch HO_8); (case side4 => exact (Kd.R_reads' HO_8.out).2.1); rintro e w' ⟨rfl, ⟨nd, rfl⟩⟩))
 go_meet
 case rel => exact ⟨_, ((t469 != t448)), (by first | rfl | (simp; done) | (simp [*]; done)), H', ⟨by have := HJ12.out; first | omega | exact Nat.le_refl _⟩, ⟨Kd.R_mono (Rh HO_8) (fun _ hk => ⟨hk.1, hk.2.1⟩)⟩, ⟨Kd.R_mono (Rh HO_11) (fun _ hk => ⟨hk.1, hk.2.1⟩)⟩, ⟨Kd.R_mono (Rh HO_466010) (fun _ hk => trivial)⟩, ⟨Kd.R_mono (Rh HO_466011) (fun _ hk => ⟨hk.1.1, hk.1.2⟩)⟩, ⟨Bh BK427⟩, ⟨Bh BK465⟩, ⟨wB⟩⟩
 }
 {
 replace c54 := Bool.eq_false_iff.mpr c54
 subst c54
 have H1 : (laws_FnExactEncodeSegment.j1 kj12 a1 a2 t445 t448 t466 true a0_0 a0_1 a0_2 a0_3 a0_4 a0_5 a0_6 a0_7 a0_8 a0_9 l0_10 l0_11) = some r := by rw [if_neg (show ¬ (false = true) by decide)] at H; exact H
 clear H
 have H := H1
 clear H1
 have H' := Aside0.mk H
 clear H
 obtain ⟨Ao57, co57, eo57⟩ := Kd.R_slice HO_11.out
 subst eo57
 obtain ⟨Ao58, co58, eo58⟩ := Kd.R_slice HO_8.out
 subst eo58
 go_wp2_with (first | (go_at_call 62; (with_reducible refine (laws_eqByteS.calls kj12 _ _ t466 _ _ t445 false _ ?side1 ?side2 ?side3 ?side4 A53.out).mono ?_); (case side1 => exact Ch HO_11); (case side2 => exact (Kd.R_reads' HO_11.out).2.1); (case side3 => exact Ch HO_8); (case side4 => exact (Kd.R_reads' HO_8.out).2.1); rintro e w' ⟨rfl, ⟨nd, rfl⟩⟩))
 go_meet
 case rel => exact ⟨_, (true), (by first | rfl | (simp; done) | (simp [*]; done)), H', ⟨by have := HJ12.out; first | omega | exact Nat.le_refl _⟩, ⟨Kd.R_mono (Rh HO_8) (fun _ hk => ⟨hk.1, hk.2.1⟩)⟩, ⟨Kd.R_mono (Rh HO_11) (fun _ hk => ⟨hk.1, hk.2.1⟩)⟩, ⟨Kd.R_mono (Rh HO_466010) (fun _ hk => trivial)⟩, ⟨Kd.R_mono (Rh HO_466011) (fun _ hk => ⟨hk.1.1, hk.1.2⟩)⟩, ⟨Bh BK427⟩, ⟨Bh BK465⟩, ⟨wB⟩⟩
 }
 }
 )
 case rest => (
 clear HC43
 try clear c1
 try clear c2
 try clear p2
 try clear c3
 try clear c4
 try clear c5
 try clear c5b0
 try clear c6
 try clear c13
 try clear c25
 try clear c29
 try clear c31
 try clear c33
 try clear c38
 try clear c41
 try clear c49
 try clear c52
 try clear c52b0
 try clear c54
 try clear hcz15_0 hcz15_1 hcz15_10 hcz15_11 hcz15_2 hcz15_3 hcz15_4 hcz15_5 hcz15_6 hcz15_7 hcz15_8 hcz15_9 hfz15_0 hfz15_1 hfz15_10 hfz15_11 hfz15_2 hfz15_3 hfz15_4 hfz15_5 hfz15_6 hfz15_7 hfz15_8 hfz15_9
 try clear hcz17_0 hcz17_1 hcz17_10 hcz17_11 hcz17_2 hcz17_3 hcz17_4 hcz17_5 hcz17_6 hcz17_7 hcz17_8 hcz17_9 hfz17_0 hfz17_1 hfz17_10 hfz17_11 hfz17_2 hfz17_3 hfz17_4 hfz17_5 hfz17_6 hfz17_7 hfz17_8 hfz17_9
 try clear hcz22_0 hcz22_1 hcz22_10 hcz22_11 hcz22_2 hcz22_3 hcz22_4 hcz22_5 hcz22_6 hcz22_7 hcz22_8 hcz22_9 hfz22_0 hfz22_1 hfz22_10 hfz22_11 hfz22_2 hfz22_3 hfz22_4 hfz22_5 hfz22_6 hfz22_7 hfz22_8 hfz22_9
 try clear hcz26_0 hcz26_1 hcz26_10 hcz26_11 hcz26_2 hcz26_3 hcz26_4 hcz26_5 hcz26_6 hcz26_7 hcz26_8 hcz26_9 hfz26_0 hfz26_1 hfz26_10 hfz26_11 hfz26_2 hfz26_3 hfz26_4 hfz26_5 hfz26_6 hfz26_7 hfz26_8 hfz26_9
 try clear hcz30_0 hcz30_1 hcz30_10 hcz30_11 hcz30_2 hcz30_3 hcz30_4 hcz30_5 hcz30_6 hcz30_7 hcz30_8 hcz30_9 hfz30_0 hfz30_1 hfz30_10 hfz30_11 hfz30_2 hfz30_3 hfz30_4 hfz30_5 hfz30_6 hfz30_7 hfz30_8 hfz30_9
 try clear hcz50_0 hcz50_1 hcz50_10 hcz50_11 hcz50_2 hcz50_3 hcz50_4 hcz50_5 hcz50_6 hcz50_7 hcz50_8 hcz50_9 hfz50_0 hfz50_1 hfz50_10 hfz50_11 hfz50_2 hfz50_3 hfz50_4 hfz50_5 hfz50_6 hfz50_7 hfz50_8 hfz50_9
 try clear hcz7_0 hcz7_1 hcz7_10 hcz7_11 hcz7_2 hcz7_3 hcz7_4 hcz7_5 hcz7_6 hcz7_7 hcz7_8 hcz7_9 hfz7_0 hfz7_1 hfz7_10 hfz7_11 hfz7_2 hfz7_3 hfz7_4 hfz7_5 hfz7_6 hfz7_7 hfz7_8 hfz7_9
 try clear p2
 obtain ⟨kq, x69_42, rfl, HA, HJ42, HO_8, HO_11, HO_466010, HO_466011, BK427, BK465, HB⟩ := hcut
 have hl466010_42 := (Kd.R_reads' HO_466010.out).1
 rw [hl466010_42] at HO_466010
 (try simp only [hl466010_42])
 (try simp only [hl466010_42] at BK427)
 (try simp only [hl466010_42] at BK465)
 (try simp only [hl466010_42] at HO_8)
 (try simp only [hl466010_42] at HO_11)
 (try simp only [hl466010_42] at HO_466011)
 have hl466011_42 := (Kd.R_reads' HO_466011.out).1
 rw [hl466011_42] at HO_466011
 (try simp only [hl466011_42])
 (try simp only [hl466011_42] at BK427)
 (try simp only [hl466011_42] at BK465)
 (try simp only [hl466011_42] at HO_8)
 (try simp only [hl466011_42] at HO_11)
 (try simp only [hl466011_42] at HO_466010)
 cases kq with
 | zero => exact absurd HA.out (by simp [laws_FnExactEncodeSegment.j1])
 | succ kj42 => {
 have H := HA.out
 clear HA
 simp only [laws_FnExactEncodeSegment.j1] at H
 by_cases c59 : x69_42 = true
 {
 subst c59
 have H1 : (some false) = some r := by rw [if_pos rfl] at H; exact H
 clear H
 have H := H1
 clear H1
 obtain rfl := Option.some.inj H
 go_wp2
 go_ret
 exact ⟨by first | rfl | (simp [errW_none, errW_some] <;> rfl) | (simp [*, errW_none, errW_some] <;> rfl), wB⟩
 }
 {
 replace c59 := Bool.eq_false_iff.mpr c59
 subst c59
 have H1 : ((laws_markByteS.f kj42 t466 1).bind fun bt492 => ((laws_heldByteS.f kj42 bt492.2 1).bind fun t494 => (if t494 < 0 then (some false) else (if t494 = bt492.1 then ((laws_toSegment.f kj42 a0_0 a0_1 a0_2 a0_3 a0_4 a0_5 a0_6 a0_7 a0_8 a0_9 l0_10 l0_11).bind fun bt495 => ((impl_EncodeSegment.f kj42 bt495.1 bt495.2.1 bt495.2.2.1 bt495.2.2.2.1 bt495.2.2.2.2.1 bt495.2.2.2.2.2.1 bt495.2.2.2.2.2.2.1 bt495.2.2.2.2.2.2.2.1 bt495.2.2.2.2.2.2.2.2.1 bt495.2.2.2.2.2.2.2.2.2.1 bt495.2.2.2.2.2.2.2.2.2.2.1 bt495.2.2.2.2.2.2.2.2.2.2.2 a1 a2).bind fun bt511 => ((laws_eqByteS.f kj42 bt511.1 t445).bind fun t515 => (if t515 = true then (laws_FnExactEncodeSegment.j2 kj42 bt492.2 bt492.1 (bt511.2 != t448)) else (laws_FnExactEncodeSegment.j2 kj42 bt492.2 bt492.1 true))))) else (some false))))) = some r := by rw [if_neg (show ¬ (false = true) by decide)] at H; exact H
 clear H
 have H := H1
 clear H1
 replace H := Option.bind_eq_some_iff.mp H
 obtain ⟨⟨t492, t493⟩, A600, H⟩ := H
 replace H : ((laws_heldByteS.f kj42 t493 1).bind fun t494 => (if t494 < 0 then (some false) else (if t494 = t492 then ((laws_toSegment.f kj42 a0_0 a0_1 a0_2 a0_3 a0_4 a0_5 a0_6 a0_7 a0_8 a0_9 l0_10 l0_11).bind fun bt495 => ((impl_EncodeSegment.f kj42 bt495.1 bt495.2.1 bt495.2.2.1 bt495.2.2.2.1 bt495.2.2.2.2.1 bt495.2.2.2.2.2.1 bt495.2.2.2.2.2.2.1 bt495.2.2.2.2.2.2.2.1 bt495.2.2.2.2.2.2.2.2.1 bt495.2.2.2.2.2.2.2.2.2.1 bt495.2.2.2.2.2.2.2.2.2.2.1 bt495.2.2.2.2.2.2.2.2.2.2.2 a1 a2).bind fun bt511 => ((laws_eqByteS.f kj42 bt511.1 t445).bind fun t515 => (if t515 = true then (laws_FnExactEncodeSegment.j2 kj42 t493 t492 (bt511.2 != t448)) else (laws_FnExactEncodeSegment.j2 kj42 t493 t492 true))))) else (some false)))) = some r := H
 have A60 := Aside0.mk A600
 clear A600
 replace H := Option.bind_eq_some_iff.mp H
 obtain ⟨t494, A610, H⟩ := H
 replace H : (if t494 < 0 then (some false) else (if t494 = t492 then ((laws_toSegment.f kj42 a0_0 a0_1 a0_2 a0_3 a0_4 a0_5 a0_6 a0_7 a0_8 a0_9 l0_10 l0_11).bind fun bt495 => ((impl_EncodeSegment.f kj42 bt495.1 bt495.2.1 bt495.2.2.1 bt495.2.2.2.1 bt495.2.2.2.2.1 bt495.2.2.2.2.2.1 bt495.2.2.2.2.2.2.1 bt495.2.2.2.2.2.2.2.1 bt495.2.2.2.2.2.2.2.2.1 bt495.2.2.2.2.2.2.2.2.2.1 bt495.2.2.2.2.2.2.2.2.2.2.1 bt495.2.2.2.2.2.2.2.2.2.2.2 a1 a2).bind fun bt511 => ((laws_eqByteS.f kj42 bt511.1 t445).bind fun t515 => (if t515 = true then (laws_FnExactEncodeSegment.j2 kj42 t493 t492 (bt511.2 != t448)) else (laws_FnExactEncodeSegment.j2 kj42 t493 t492 true))))) else (some false))) = some r := H
 have A61 := Aside0.mk A610
 clear A610
 by_cases c62 : t494 < 0
 {
 rw [if_pos c62] at H
 have c62b0 : decide (t494 < 0) = true := decide_eq_true c62
 clear c62
 obtain rfl := Option.some.inj H
 have n_ := Aside0.mk (Kd.R_mono (ok' := (fun k_ => some k_ ≠ (.slice Ao28 t490.length co28 : Value).ownBlock)) HO_11.out (fun k_ hk => hk.2))
 clear HO_11
 have HO_11 := n_
 clear n_
 have n_ := Aside0.mk (Kd.R_mono (ok' := (fun k_ => some k_ ≠ (v467 : Value).ownBlock)) HO_466011.out (fun k_ hk => hk.2))
 clear HO_466011
 have HO_466011 := n_
 clear n_
 (try clear HO_8)
 obtain ⟨Ao63, co63, eo63⟩ := Kd.R_slice HO_11.out
 subst eo63
 go_wp2_with (first | ((with_reducible refine gate_callee (f := 64) rfl ?_); refine goesL_ (some 72) rfl rfl Try.func64 (by kernel_rfl) rfl #[.slice Ao63 t466.length co63, .int .i64 1] rfl wT ?_; (with_reducible refine (laws_markByteS.calls kj42 (fun k_ => some k_ = (.slice Ao63 t466.length co63 : Value).ownBlock) (.slice Ao63 t466.length co63) t466 1 t492 t493 w _ ?side1 ?side2 A60.out).mono ?_); (case side1 => repeat (first | (with_reducible first | exact HB.out | apply below_alloc | apply pw_below_drewN | apply below_drew1 | refine below_set ?_ GE427.out | refine below_set ?_ GE465.out) | exact HB.out)); (case side2 => exact Kd.R_tight rfl HO_11.out); rintro e w64 ⟨rfl, hy0, hb, hkp⟩; refine ⟨_, rfl, ?_⟩; have n0_ := Aside0.mk (Kd.R_reok rfl hy0 (fun k_ e_ => HO_11.out.1 k_ e_)); have n1_ := Aside0.mk (Kd.R_mono (ok' := fun k_ => True) (Kd.R_keptB ((Kd.R_apart' HO_466010.out (Kd.R_typed HO_11.out) (by decide))) hkp (fun k_ hk_ hs_ => (hk_.2) hs_)) (fun k_ hk_ => trivial)); have n2_ := Aside0.mk (Kd.R_mono (ok' := fun k_ => some k_ ≠ (.slice Ao63 t466.length co63 : Value).ownBlock) (Kd.R_keptB (HO_466011.out) hkp (fun k_ hk_ hs_ => (hk_) hs_)) (fun k_ hk_ => hk_.1)); have n3_ := Aside0.mk (blk_kept (Bh BK427) hkp (fun hs_ => (fun e_ => (Kd.R_ne HO_11.out BK427.out (by decide)) e_) hs_)); have n4_ := Aside0.mk (blk_kept (Bh BK465) hkp (fun hs_ => (fun e_ => (Kd.R_ne HO_11.out BK465.out (by decide)) e_) hs_)); have n5_ := Aside0.mk (hb); clear HO_11; clear HO_466010; clear HO_466011; clear BK427; clear BK465; clear HB; have HO_11 := n0_; have HO_466010 := n1_; have HO_466011 := n2_; have BK427 := n3_; have BK465 := n4_; have HB := n5_; clear n0_ n1_ n2_ n3_ n4_ n5_; (try clear hb); (try clear hkp); (try clear hy0)) | ((with_reducible refine gate_callee (f := 65) rfl ?_); refine goesL_ (some 75) rfl rfl Try.func65 (by kernel_rfl) rfl #[.slice Ao63 t493.length co63, .int .i64 1] rfl (by (try simp only [List.map_toArray, List.map_cons, List.map_nil]); first | done | (rw [show t493.length = t466.length from (Kd.R_reads' HO_11.out).1.symm] <;> rfl) | rfl | (simp only [List.length_drop, List.length_take]; rfl)) ?_; (with_reducible refine (laws_heldByteS.calls kj42 _ _ t493 1 t494 _ ?side1 ?side2 A61.out).mono ?_); (case side1 => exact Ch HO_11); (case side2 => rw [show t493.length = t466.length from (Kd.R_reads' HO_11.out).1.symm]; exact (Kd.R_reads' HO_11.out).2.1); rintro e w' ⟨rfl, ⟨nd, rfl⟩⟩; refine ⟨_, rfl, ?_⟩))
 go_ret
 exact ⟨by first | rfl | (simp [errW_none, errW_some] <;> rfl) | (simp [*, errW_none, errW_some] <;> rfl), wB⟩
 }
 {
 rw [if_neg c62] at H
 have c62b0 : decide (t494 < 0) = false := decide_eq_false c62
 clear c62
 by_cases c65 : t494 = t492
 {
 rw [if_pos c65] at H
 have c65b0 : (t494 == t492) = true := beq_iff_eq.mpr c65
 have c65b1 : (t494 != t492) = false := bne_eq_false_iff_eq.mpr c65
 clear c65
 replace H := Option.bind_eq_some_iff.mp H
 obtain ⟨⟨t495, t496, t497, t498, t499, t500, t501, t502, t503, t504, t505, t508⟩, A660, H⟩ := H
 replace H : ((impl_EncodeSegment.f kj42 t495 t496 t497 t498 t499 t500 t501 t502 t503 t504 t505 t508 a1 a2).bind fun bt511 => ((laws_eqByteS.f kj42 bt511.1 t445).bind fun t515 => (if t515 = true then (laws_FnExactEncodeSegment.j2 kj42 t493 t492 (bt511.2 != t448)) else (laws_FnExactEncodeSegment.j2 kj42 t493 t492 true)))) = some r := H
 have A66 := Aside0.mk A660
 clear A660
 replace H := Option.bind_eq_some_iff.mp H
 obtain ⟨⟨t511, t514⟩, A670, H⟩ := H
 replace H : ((laws_eqByteS.f kj42 t511 t445).bind fun t515 => (if t515 = true then (laws_FnExactEncodeSegment.j2 kj42 t493 t492 (t514 != t448)) else (laws_FnExactEncodeSegment.j2 kj42 t493 t492 true))) = some r := H
 have A67 := Aside0.mk A670
 clear A670
 have HC68 := Aside0.mk H
 clear H
 obtain ⟨Ao69, co69, eo69⟩ := Kd.R_slice HO_11.out
 subst eo69
 go_upto_region 25 with (first | ((with_reducible refine gate_callee (f := 64) rfl ?_); refine goesL_ (some 72) rfl rfl Try.func64 (by kernel_rfl) rfl #[.slice Ao69 t466.length co69, .int .i64 1] rfl wT ?_; (with_reducible refine (laws_markByteS.calls kj42 (fun k_ => some k_ = (.slice Ao69 t466.length co69 : Value).ownBlock) (.slice Ao69 t466.length co69) t466 1 t492 t493 w _ ?side1 ?side2 A60.out).mono ?_); (case side1 => repeat (first | (with_reducible first | exact HB.out | apply below_alloc | apply pw_below_drewN | apply below_drew1 | refine below_set ?_ GE427.out | refine below_set ?_ GE465.out) | exact HB.out)); (case side2 => exact Kd.R_tight rfl HO_11.out); rintro e w70 ⟨rfl, hy0, hb, hkp⟩; refine ⟨_, rfl, ?_⟩; have n0_ := Aside0.mk (Kd.R_mono (ok' := fun k_ => some k_ ≠ (.slice Ao69 t466.length co69 : Value).ownBlock ∧ some k_ ≠ (.slice Ao28 t490.length co28 : Value).ownBlock) (Kd.R_keptB (HO_8.out) hkp (fun k_ hk_ hs_ => (hk_.1) hs_)) (fun k_ hk_ => ⟨hk_.1.1, hk_.1.2⟩)); have n1_ := Aside0.mk (Kd.R_reok rfl hy0 (fun k_ e_ => HO_11.out.1 k_ e_)); have n2_ := Aside0.mk (Kd.R_mono (ok' := fun k_ => True) (Kd.R_keptB ((Kd.R_apart' HO_466010.out (Kd.R_typed HO_11.out) (by decide))) hkp (fun k_ hk_ hs_ => (hk_.2) hs_)) (fun k_ hk_ => trivial)); have n3_ := Aside0.mk (Kd.R_mono (ok' := fun k_ => some k_ ≠ (v446 : Value).ownBlock ∧ some k_ ≠ (.slice Ao69 t466.length co69 : Value).ownBlock) (Kd.R_keptB (HO_466011.out) hkp (fun k_ hk_ hs_ => (hk_.2) hs_)) (fun k_ hk_ => ⟨hk_.1.1, hk_.1.2⟩)); have n4_ := Aside0.mk (blk_kept (Bh BK427) hkp (fun hs_ => (fun e_ => (Kd.R_ne HO_11.out BK427.out (by decide)) e_) hs_)); have n5_ := Aside0.mk (blk_kept (Bh BK465) hkp (fun hs_ => (fun e_ => (Kd.R_ne HO_11.out BK465.out (by decide)) e_) hs_)); have n6_ := Aside0.mk (hb); clear HO_8; clear HO_11; clear HO_466010; clear HO_466011; clear BK427; clear BK465; clear HB; have HO_8 := n0_; have HO_11 := n1_; have HO_466010 := n2_; have HO_466011 := n3_; have BK427 := n4_; have BK465 := n5_; have HB := n6_; clear n0_ n1_ n2_ n3_ n4_ n5_ n6_; (try clear hb); (try clear hkp); (try clear hy0)) | ((with_reducible refine gate_callee (f := 65) rfl ?_); refine goesL_ (some 75) rfl rfl Try.func65 (by kernel_rfl) rfl #[.slice Ao69 t493.length co69, .int .i64 1] rfl (by (try simp only [List.map_toArray, List.map_cons, List.map_nil]); first | done | (rw [show t493.length = t466.length from (Kd.R_reads' HO_11.out).1.symm] <;> rfl) | rfl | (simp only [List.length_drop, List.length_take]; rfl)) ?_; (with_reducible refine (laws_heldByteS.calls kj42 _ _ t493 1 t494 _ ?side1 ?side2 A61.out).mono ?_); (case side1 => exact Ch HO_11); (case side2 => rw [show t493.length = t466.length from (Kd.R_reads' HO_11.out).1.symm]; exact (Kd.R_reads' HO_11.out).2.1); rintro e w' ⟨rfl, ⟨nd, rfl⟩⟩; refine ⟨_, rfl, ?_⟩; have hnb71 := NB427_465.out; have hnc71 := NB465_427.out; obtain ⟨⟨hcz72_0, hcz72_1, hcz72_2, hcz72_3, hcz72_4, hcz72_5, hcz72_6, hcz72_7, hcz72_8, hcz72_9, hcz72_10, hcz72_11⟩, hfz72_0, hfz72_1, hfz72_2, hfz72_3, hfz72_4, hfz72_5, hfz72_6, hfz72_7, hfz72_8, hfz72_9, hfz72_10, hfz72_11⟩ := cells12 BK427.out) | ((with_reducible refine gate_callee (f := 31) rfl ?_); refine goesL_ (some 83) rfl rfl Try.func31 (by kernel_rfl) rfl #[.agg #[.int .i64 a0_0, .int .i64 a0_1, .int .i64 a0_2, .int .i64 a0_3, .int .i64 a0_4, .int .i64 a0_5, .int .i64 a0_6, .bool a0_7, .int .i64 a0_8, .bool a0_9, .slice A0_10 l0_10.length c0_10, .slice A0_11 l0_11.length c0_11]] rfl wT ?_; (with_reducible refine (laws_toSegment.calls kj42 a0_0 a0_1 a0_2 a0_3 a0_4 a0_5 a0_6 a0_7 a0_8 a0_9 _ _ l0_10 _ _ l0_11 t495 t496 t497 t498 t499 t500 t501 t502 t503 t504 t505 t508 _ ?side1 ?side2 ?side3 ?side4 A66.out).mono ?_); (case side1 => repeat (first | exact (Kd.C_below HR0_10.out wB) | (with_reducible refine Kd.C_alloc ?_ _) | (with_reducible refine Kd.C_drewN ?_ _) | (with_reducible refine Kd.C_drew ?_))); (case side2 => exact HC0_10.out); (case side3 => repeat (first | exact (Kd.C_below HR0_11.out wB) | (with_reducible refine Kd.C_alloc ?_ _) | (with_reducible refine Kd.C_drewN ?_ _) | (with_reducible refine Kd.C_drew ?_))); (case side4 => exact HC0_11.out); rintro e w73 ⟨v506, v509, rfl, ho0, ho1, hb⟩; refine ⟨_, rfl, ?_⟩; have n0_ := Aside0.mk (Kd.R_elder' (Rh HO_8) (Kd.R_base ho1) hb); have n1_ := Aside0.mk (Kd.R_elder' (Rh HO_11) (Kd.R_base ho1) hb); have n2_ := Aside0.mk (Kd.R_elder' (Rh HO_466010) (Kd.R_base ho0) hb); have n3_ := Aside0.mk (Kd.R_elder' (Rh HO_466011) (Kd.R_base ho1) hb); have n4_ := Aside0.mk (Kd.R_lower (Kd.R_new' ho0 (Kd.R_lt (Rh HO_466010))) (below_size wB)); have n5_ := Aside0.mk (Kd.R_lower (Kd.R_new' (Kd.R_new' (Kd.R_new' ho1 (Kd.R_lt (Rh HO_8))) (Kd.R_lt (Rh HO_11))) (Kd.R_lt (Rh HO_466011))) (below_size wB)); have n6_ := Aside0.mk (blk_below (Bh BK427) hb); have n7_ := Aside0.mk (blk_below (Bh BK465) hb); have n8_ := Aside0.mk (below_step wB hb); clear HO_8; clear HO_11; clear HO_466010; clear HO_466011; clear BK427; clear BK465; clear HB; have HO_8 := n0_; have HO_11 := n1_; have HO_466010 := n2_; have HO_466011 := n3_; have HO507 := n4_; have HO510 := n5_; have BK427 := n6_; have BK465 := n7_; have HB := n8_; clear n0_ n1_ n2_ n3_ n4_ n5_ n6_ n7_ n8_; (try clear hb); (try clear hb2); (try clear hk); (try clear hi); (try clear ho0); (try clear ho1); obtain ⟨Ao74, co74, eo74⟩ := Kd.R_slice HO507.out; subst eo74; obtain ⟨Ao75, co75, eo75⟩ := Kd.R_slice HO510.out; subst eo75) | ((with_reducible refine gate_callee (f := 67) rfl ?_); refine goesL_ (some 86) rfl rfl Try.func67 (by kernel_rfl) rfl #[.agg #[.int .i64 t495, .int .i64 t496, .int .i64 t497, .int .i64 t498, .int .i64 t499, .int .i64 t500, .int .i64 t501, .bool t502, .int .i64 t503, .bool t504, .slice Ao74 t505.length co74, .slice Ao75 t508.length co75], .int .i64 a1, .int .i64 a2] rfl wT ?_; (with_reducible refine (impl_EncodeSegment.calls kj42 t495 t496 t497 t498 t499 t500 t501 t502 t503 t504 _ _ t505 _ _ t508 a1 a2 t511 t514 _ ?side1 ?side2 ?side3 ?side4 A67.out).mono ?_); (case side1 => exact Ch HO507); (case side2 => exact (Kd.R_reads' HO507.out).2.1); (case side3 => exact Ch HO510); (case side4 => exact (Kd.R_reads' HO510.out).2.1); rintro e w76 ⟨v512, rfl, ho0, hb⟩; refine ⟨_, rfl, ?_⟩; have n0_ := Aside0.mk (Kd.R_elder' (Rh HO_8) (Kd.R_base ho0) hb); have n1_ := Aside0.mk (Kd.R_elder' (Rh HO_11) (Kd.R_base ho0) hb); have n2_ := Aside0.mk (Kd.R_below (Rh HO_466010) hb); have n3_ := Aside0.mk (Kd.R_elder' (Rh HO_466011) (Kd.R_base ho0) hb); have n4_ := Aside0.mk (Kd.R_below (Rh HO507) hb); have n5_ := Aside0.mk (Kd.R_elder' (Rh HO510) (Kd.R_base ho0) hb); have n6_ := Aside0.mk (Kd.R_lower (Kd.R_new' (Kd.R_new' (Kd.R_new' (Kd.R_new' ho0 (Kd.R_lt (Rh HO_8))) (Kd.R_lt (Rh HO_11))) (Kd.R_lt (Rh HO_466011))) (Kd.R_lt (Rh HO510))) (below_size wB)); have n7_ := Aside0.mk (blk_below (Bh BK427) hb); have n8_ := Aside0.mk (blk_below (Bh BK465) hb); have n9_ := Aside0.mk (below_step wB hb); clear HO_8; clear HO_11; clear HO_466010; clear HO_466011; clear HO507; clear HO510; clear BK427; clear BK465; clear HB; have HO_8 := n0_; have HO_11 := n1_; have HO_466010 := n2_; have HO_466011 := n3_; have HO507 := n4_; have HO510 := n5_; have HO513 := n6_; have BK427 := n7_; have BK465 := n8_; have HB := n9_; clear n0_ n1_ n2_ n3_ n4_ n5_ n6_ n7_ n8_ n9_; (try clear hb); (try clear hb2); (try clear hk); (try clear hi); (try clear ho0)))
 (try simp only [Act.put, List.setIfInBounds_toArray, List.set_cons_zero, List.set_cons_succ])
 go_cut [97] (fun v97 wc => ∃ (kq : Nat) (x97_67 : Bool), v97 = .bool x97_67 ∧ Aside0 (laws_FnExactEncodeSegment.j2 kq t493 t492 x97_67 = some r) ∧ Aside0 (kq ≤ kj42) ∧ Aside0 (Kd.R (Kd.int .u8) 5 wc w.heap.size (fun k_ => some k_ ≠ ((.slice Ao28 t490.length co28) : Value).ownBlock) (.slice Ao69 t466.length co69) t493) ∧ Aside0 (Kd.R k157 157 wc w.heap.size (fun _ => True) (.slice Ao27 t489.length co27) t489) ∧ Aside0 (Kd.R (Kd.int .u8) 5 wc w.heap.size (fun k_ => some k_ ≠ ((.slice Ao69 t466.length co69) : Value).ownBlock) (.slice Ao28 t490.length co28) t490) ∧ Aside0 (wc.heap[gb427]? = some (.cells #[.int .i64 a0_0, .int .i64 a0_1, .int .i64 a0_2, .int .i64 a0_3, .int .i64 a0_4, .int .i64 a0_5, .int .i64 a0_6, .bool a0_7, .int .i64 a0_8, .bool a0_9, (.slice A0_10 l0_10.length c0_10), (.slice A0_11 l0_11.length c0_11)] 46 (0, 0))) ∧ Aside0 (wc.heap[gb465]? = some (.cells #[.int .i64 t449, .int .i64 t450, .int .i64 t451, .int .i64 t452, .int .i64 t453, .int .i64 t454, .int .i64 t455, .bool t456, .int .i64 t457, .bool t458, (.slice Ao27 t489.length co27), (.slice Ao28 t490.length co28)] 51 (0, 0))) ∧ Aside0 (Below w.heap.size w wc))
 case first => (
 have H := HC68.out
 clear HC68
 replace H := Option.bind_eq_some_iff.mp H
 obtain ⟨t515, A770, H⟩ := H
 replace H : (if t515 = true then (laws_FnExactEncodeSegment.j2 kj42 t493 t492 (t514 != t448)) else (laws_FnExactEncodeSegment.j2 kj42 t493 t492 true)) = some r := H
 have A77 := Aside0.mk A770
 clear A770
 by_cases c78 : t515 = true
 {
 subst c78
 have H1 : (laws_FnExactEncodeSegment.j2 kj42 t493 t492 (t514 != t448)) = some r := by rw [if_pos rfl] at H; exact H
 clear H
 have H := H1
 clear H1
 have H' := Aside0.mk H
 clear H
 obtain ⟨Ao79, co79, eo79⟩ := Kd.R_slice HO513.out
 subst eo79
 obtain ⟨Ao80, co80, eo80⟩ := Kd.R_slice HO_8.out
 subst eo80
 go_wp2_with (first | ((with_reducible refine gate_callee (f := 62) rfl ?_); refine goesL_ (some 91) rfl rfl Try.func62 (by kernel_rfl) rfl #[.slice Ao79 t511.length co79, .slice Ao80 t445.length co80] rfl wT ?_; (with_reducible refine (laws_eqByteS.calls kj42 _ _ t511 _ _ t445 true _ ?side1 ?side2 ?side3 ?side4 A77.out).mono ?_); (case side1 => exact Ch HO513); (case side2 => exact (Kd.R_reads' HO513.out).2.1); (case side3 => exact Ch HO_8); (case side4 => exact (Kd.R_reads' HO_8.out).2.1); rintro e w' ⟨rfl, ⟨nd, rfl⟩⟩; refine ⟨_, rfl, ?_⟩))
 go_meet
 case rel => exact ⟨_, ((t514 != t448)), (by first | rfl | (simp; done) | (simp [*]; done)), H', ⟨by have := HJ12.out; have := HJ42.out; first | omega | exact Nat.le_refl _⟩, ⟨by (try simp only [hl466010_42]); (try simp only [hl466011_42]); (with_reducible repeat (first | apply Kd.R_alloc | apply Kd.R_drewN | apply Kd.R_drew)); exact Kd.R_mono HO_11.out (fun _ hk => hk.1.1.2)⟩, ⟨by (try simp only [hl466010_42]); (try simp only [hl466011_42]); (with_reducible repeat (first | apply Kd.R_alloc | apply Kd.R_drewN | apply Kd.R_drew)); exact Kd.R_mono HO_466010.out (fun _ hk => trivial)⟩, ⟨by (try simp only [hl466010_42]); (try simp only [hl466011_42]); (with_reducible repeat (first | apply Kd.R_alloc | apply Kd.R_drewN | apply Kd.R_drew)); exact Kd.R_mono HO_466011.out (fun _ hk => hk.1.1.2)⟩, ⟨by (try simp only [hl466010_42]); (try simp only [hl466011_42]); (with_reducible repeat (first | refine blk_drewN ?_ _ | refine blk_drew ?_ | refine blk_alloc ?_ _)); exact BK427.out⟩, ⟨by (try simp only [hl466010_42]); (try simp only [hl466011_42]); (with_reducible repeat (first | refine blk_drewN ?_ _ | refine blk_drew ?_ | refine blk_alloc ?_ _)); exact BK465.out⟩, ⟨wB⟩⟩
 }
 {
 replace c78 := Bool.eq_false_iff.mpr c78
 subst c78
 have H1 : (laws_FnExactEncodeSegment.j2 kj42 t493 t492 true) = some r := by rw [if_neg (show ¬ (false = true) by decide)] at H; exact H
 clear H
 have H := H1
 clear H1
 have H' := Aside0.mk H
 clear H
 obtain ⟨Ao81, co81, eo81⟩ := Kd.R_slice HO513.out
 subst eo81
 obtain ⟨Ao82, co82, eo82⟩ := Kd.R_slice HO_8.out
 subst eo82
 go_wp2_with (first | ((with_reducible refine gate_callee (f := 62) rfl ?_); refine goesL_ (some 91) rfl rfl Try.func62 (by kernel_rfl) rfl #[.slice Ao81 t511.length co81, .slice Ao82 t445.length co82] rfl wT ?_; (with_reducible refine (laws_eqByteS.calls kj42 _ _ t511 _ _ t445 false _ ?side1 ?side2 ?side3 ?side4 A77.out).mono ?_); (case side1 => exact Ch HO513); (case side2 => exact (Kd.R_reads' HO513.out).2.1); (case side3 => exact Ch HO_8); (case side4 => exact (Kd.R_reads' HO_8.out).2.1); rintro e w' ⟨rfl, ⟨nd, rfl⟩⟩; refine ⟨_, rfl, ?_⟩))
 go_meet
 case rel => exact ⟨_, (true), (by first | rfl | (simp; done) | (simp [*]; done)), H', ⟨by have := HJ12.out; have := HJ42.out; first | omega | exact Nat.le_refl _⟩, ⟨by (try simp only [hl466010_42]); (try simp only [hl466011_42]); (with_reducible repeat (first | apply Kd.R_alloc | apply Kd.R_drewN | apply Kd.R_drew)); exact Kd.R_mono HO_11.out (fun _ hk => hk.1.1.2)⟩, ⟨by (try simp only [hl466010_42]); (try simp only [hl466011_42]); (with_reducible repeat (first | apply Kd.R_alloc | apply Kd.R_drewN | apply Kd.R_drew)); exact Kd.R_mono HO_466010.out (fun _ hk => trivial)⟩, ⟨by (try simp only [hl466010_42]); (try simp only [hl466011_42]); (with_reducible repeat (first | apply Kd.R_alloc | apply Kd.R_drewN | apply Kd.R_drew)); exact Kd.R_mono HO_466011.out (fun _ hk => hk.1.1.2)⟩, ⟨by (try simp only [hl466010_42]); (try simp only [hl466011_42]); (with_reducible repeat (first | refine blk_drewN ?_ _ | refine blk_drew ?_ | refine blk_alloc ?_ _)); exact BK427.out⟩, ⟨by (try simp only [hl466010_42]); (try simp only [hl466011_42]); (with_reducible repeat (first | refine blk_drewN ?_ _ | refine blk_drew ?_ | refine blk_alloc ?_ _)); exact BK465.out⟩, ⟨wB⟩⟩
 }
 )
 case rest => (
 clear HC68
 try clear c1
 try clear c2
 try clear p2
 try clear c3
 try clear c4
 try clear c5
 try clear c5b0
 try clear c6
 try clear c7
 try clear c13
 try clear c25
 try clear c29
 try clear c31
 try clear c33
 try clear c38
 try clear c41
 try clear c49
 try clear c52
 try clear c52b0
 try clear c54
 try clear c59
 try clear c62
 try clear c62b0
 try clear c64
 try clear c65
 try clear c65b0
 try clear c65b1
 try clear c66
 try clear c67
 try clear c68
 try clear c71
 try clear c78
 try clear hcz15_0 hcz15_1 hcz15_10 hcz15_11 hcz15_2 hcz15_3 hcz15_4 hcz15_5 hcz15_6 hcz15_7 hcz15_8 hcz15_9 hfz15_0 hfz15_1 hfz15_10 hfz15_11 hfz15_2 hfz15_3 hfz15_4 hfz15_5 hfz15_6 hfz15_7 hfz15_8 hfz15_9
 try clear hcz17_0 hcz17_1 hcz17_10 hcz17_11 hcz17_2 hcz17_3 hcz17_4 hcz17_5 hcz17_6 hcz17_7 hcz17_8 hcz17_9 hfz17_0 hfz17_1 hfz17_10 hfz17_11 hfz17_2 hfz17_3 hfz17_4 hfz17_5 hfz17_6 hfz17_7 hfz17_8 hfz17_9
 try clear hcz22_0 hcz22_1 hcz22_10 hcz22_11 hcz22_2 hcz22_3 hcz22_4 hcz22_5 hcz22_6 hcz22_7 hcz22_8 hcz22_9 hfz22_0 hfz22_1 hfz22_10 hfz22_11 hfz22_2 hfz22_3 hfz22_4 hfz22_5 hfz22_6 hfz22_7 hfz22_8 hfz22_9
 try clear hcz26_0 hcz26_1 hcz26_10 hcz26_11 hcz26_2 hcz26_3 hcz26_4 hcz26_5 hcz26_6 hcz26_7 hcz26_8 hcz26_9 hfz26_0 hfz26_1 hfz26_10 hfz26_11 hfz26_2 hfz26_3 hfz26_4 hfz26_5 hfz26_6 hfz26_7 hfz26_8 hfz26_9
 try clear hcz30_0 hcz30_1 hcz30_10 hcz30_11 hcz30_2 hcz30_3 hcz30_4 hcz30_5 hcz30_6 hcz30_7 hcz30_8 hcz30_9 hfz30_0 hfz30_1 hfz30_10 hfz30_11 hfz30_2 hfz30_3 hfz30_4 hfz30_5 hfz30_6 hfz30_7 hfz30_8 hfz30_9
 try clear hcz50_0 hcz50_1 hcz50_10 hcz50_11 hcz50_2 hcz50_3 hcz50_4 hcz50_5 hcz50_6 hcz50_7 hcz50_8 hcz50_9 hfz50_0 hfz50_1 hfz50_10 hfz50_11 hfz50_2 hfz50_3 hfz50_4 hfz50_5 hfz50_6 hfz50_7 hfz50_8 hfz50_9
 try clear hcz72_0 hcz72_1 hcz72_10 hcz72_11 hcz72_2 hcz72_3 hcz72_4 hcz72_5 hcz72_6 hcz72_7 hcz72_8 hcz72_9 hfz72_0 hfz72_1 hfz72_10 hfz72_11 hfz72_2 hfz72_3 hfz72_4 hfz72_5 hfz72_6 hfz72_7 hfz72_8 hfz72_9
 try clear hcz7_0 hcz7_1 hcz7_10 hcz7_11 hcz7_2 hcz7_3 hcz7_4 hcz7_5 hcz7_6 hcz7_7 hcz7_8 hcz7_9 hfz7_0 hfz7_1 hfz7_10 hfz7_11 hfz7_2 hfz7_3 hfz7_4 hfz7_5 hfz7_6 hfz7_7 hfz7_8 hfz7_9
 try clear p2
 obtain ⟨kq, x97_67, rfl, HA, HJ67, HO_11, HO_466010, HO_466011, BK427, BK465, HB⟩ := hcut
 have hl11_67 := (Kd.R_reads' HO_11.out).1
 rw [hl11_67] at HO_11
 (try simp only [hl11_67])
 (try simp only [hl11_67] at BK427)
 (try simp only [hl11_67] at BK465)
 (try simp only [hl11_67] at HO_466010)
 (try simp only [hl11_67] at HO_466011)
 cases kq with
 | zero => exact absurd HA.out (by simp [laws_FnExactEncodeSegment.j2])
 | succ kj67 => {
 have H := HA.out
 clear HA
 simp only [laws_FnExactEncodeSegment.j2] at H
 by_cases c83 : x97_67 = true
 {
 subst c83
 have H1 : (some false) = some r := by rw [if_pos rfl] at H; exact H
 clear H
 have H := H1
 clear H1
 obtain rfl := Option.some.inj H
 go_wp2
 go_ret
 exact ⟨by first | rfl | (simp [errW_none, errW_some] <;> rfl) | (simp [*, errW_none, errW_some] <;> rfl), wB⟩
 }
 {
 replace c83 := Bool.eq_false_iff.mpr c83
 subst c83
 have H1 : ((laws_heldByteS.f kj67 t493 1).bind fun t516 => (if t516 < 0 then (some false) else (if t516 = t492 then (some true) else (some false)))) = some r := by rw [if_neg (show ¬ (false = true) by decide)] at H; exact H
 clear H
 have H := H1
 clear H1
 replace H := Option.bind_eq_some_iff.mp H
 obtain ⟨t516, A840, H⟩ := H
 replace H : (if t516 < 0 then (some false) else (if t516 = t492 then (some true) else (some false))) = some r := H
 have A84 := Aside0.mk A840
 clear A840
 by_cases c85 : t516 < 0
 {
 rw [if_pos c85] at H
 have c85b0 : decide (t516 < 0) = true := decide_eq_true c85
 clear c85
 obtain rfl := Option.some.inj H
 go_wp2_with (first | ((with_reducible refine gate_callee (f := 65) rfl ?_); refine goesL_ (some 100) rfl rfl Try.func65 (by kernel_rfl) rfl #[.slice Ao69 t493.length co69, .int .i64 1] rfl wT ?_; (with_reducible refine (laws_heldByteS.calls kj67 _ _ t493 1 t516 _ ?side1 ?side2 A84.out).mono ?_); (case side1 => exact Ch HO_11); (case side2 => exact (Kd.R_reads' HO_11.out).2.1); rintro e w' ⟨rfl, ⟨nd, rfl⟩⟩; refine ⟨_, rfl, ?_⟩))
 go_ret
 exact ⟨by first | rfl | (simp [errW_none, errW_some] <;> rfl) | (simp [*, errW_none, errW_some] <;> rfl), wB⟩
 }
 {
 rw [if_neg c85] at H
 have c85b0 : decide (t516 < 0) = false := decide_eq_false c85
 clear c85
 by_cases c86 : t516 = t492
 {
 rw [if_pos c86] at H
 have c86b0 : (t516 == t492) = true := beq_iff_eq.mpr c86
 have c86b1 : (t516 != t492) = false := bne_eq_false_iff_eq.mpr c86
 clear c86
 obtain rfl := Option.some.inj H
 go_wp2_with (first | ((with_reducible refine gate_callee (f := 65) rfl ?_); refine goesL_ (some 100) rfl rfl Try.func65 (by kernel_rfl) rfl #[.slice Ao69 t493.length co69, .int .i64 1] rfl wT ?_; (with_reducible refine (laws_heldByteS.calls kj67 _ _ t493 1 t516 _ ?side1 ?side2 A84.out).mono ?_); (case side1 => exact Ch HO_11); (case side2 => exact (Kd.R_reads' HO_11.out).2.1); rintro e w' ⟨rfl, ⟨nd, rfl⟩⟩; refine ⟨_, rfl, ?_⟩))
 go_ret
 exact ⟨by first | rfl | (simp [errW_none, errW_some] <;> rfl) | (simp [*, errW_none, errW_some] <;> rfl), wB⟩
 }
 {
 rw [if_neg c86] at H
 have c86b0 : (t516 == t492) = false := beq_eq_false_iff_ne.mpr c86
 have c86b1 : (t516 != t492) = true := bne_iff_ne.mpr c86
 obtain rfl := Option.some.inj H
 go_wp2_with (first | ((with_reducible refine gate_callee (f := 65) rfl ?_); refine goesL_ (some 100) rfl rfl Try.func65 (by kernel_rfl) rfl #[.slice Ao69 t493.length co69, .int .i64 1] rfl wT ?_; (with_reducible refine (laws_heldByteS.calls kj67 _ _ t493 1 t516 _ ?side1 ?side2 A84.out).mono ?_); (case side1 => exact Ch HO_11); (case side2 => exact (Kd.R_reads' HO_11.out).2.1); rintro e w' ⟨rfl, ⟨nd, rfl⟩⟩; refine ⟨_, rfl, ?_⟩))
 go_ret
 exact ⟨by first | rfl | (simp [errW_none, errW_some] <;> rfl) | (simp [*, errW_none, errW_some] <;> rfl), wB⟩
 }
 }
 }
 }
 )
 }
 {
 rw [if_neg c65] at H
 have c65b0 : (t494 == t492) = false := beq_eq_false_iff_ne.mpr c65
 have c65b1 : (t494 != t492) = true := bne_iff_ne.mpr c65
 obtain rfl := Option.some.inj H
 have n_ := Aside0.mk (Kd.R_mono (ok' := (fun k_ => some k_ ≠ (.slice Ao28 t490.length co28 : Value).ownBlock)) HO_11.out (fun k_ hk => hk.2))
 clear HO_11
 have HO_11 := n_
 clear n_
 have n_ := Aside0.mk (Kd.R_mono (ok' := (fun k_ => some k_ ≠ (v467 : Value).ownBlock)) HO_466011.out (fun k_ hk => hk.2))
 clear HO_466011
 have HO_466011 := n_
 clear n_
 (try clear HO_8)
 obtain ⟨Ao87, co87, eo87⟩ := Kd.R_slice HO_11.out
 subst eo87
 go_wp2_with (first | ((with_reducible refine gate_callee (f := 64) rfl ?_); refine goesL_ (some 72) rfl rfl Try.func64 (by kernel_rfl) rfl #[.slice Ao87 t466.length co87, .int .i64 1] rfl wT ?_; (with_reducible refine (laws_markByteS.calls kj42 (fun k_ => some k_ = (.slice Ao87 t466.length co87 : Value).ownBlock) (.slice Ao87 t466.length co87) t466 1 t492 t493 w _ ?side1 ?side2 A60.out).mono ?_); (case side1 => repeat (first | (with_reducible first | exact HB.out | apply below_alloc | apply pw_below_drewN | apply below_drew1 | refine below_set ?_ GE427.out | refine below_set ?_ GE465.out) | exact HB.out)); (case side2 => exact Kd.R_tight rfl HO_11.out); rintro e w88 ⟨rfl, hy0, hb, hkp⟩; refine ⟨_, rfl, ?_⟩; have n0_ := Aside0.mk (Kd.R_reok rfl hy0 (fun k_ e_ => HO_11.out.1 k_ e_)); have n1_ := Aside0.mk (Kd.R_mono (ok' := fun k_ => True) (Kd.R_keptB ((Kd.R_apart' HO_466010.out (Kd.R_typed HO_11.out) (by decide))) hkp (fun k_ hk_ hs_ => (hk_.2) hs_)) (fun k_ hk_ => trivial)); have n2_ := Aside0.mk (Kd.R_mono (ok' := fun k_ => some k_ ≠ (.slice Ao87 t466.length co87 : Value).ownBlock) (Kd.R_keptB (HO_466011.out) hkp (fun k_ hk_ hs_ => (hk_) hs_)) (fun k_ hk_ => hk_.1)); have n3_ := Aside0.mk (blk_kept (Bh BK427) hkp (fun hs_ => (fun e_ => (Kd.R_ne HO_11.out BK427.out (by decide)) e_) hs_)); have n4_ := Aside0.mk (blk_kept (Bh BK465) hkp (fun hs_ => (fun e_ => (Kd.R_ne HO_11.out BK465.out (by decide)) e_) hs_)); have n5_ := Aside0.mk (hb); clear HO_11; clear HO_466010; clear HO_466011; clear BK427; clear BK465; clear HB; have HO_11 := n0_; have HO_466010 := n1_; have HO_466011 := n2_; have BK427 := n3_; have BK465 := n4_; have HB := n5_; clear n0_ n1_ n2_ n3_ n4_ n5_; (try clear hb); (try clear hkp); (try clear hy0)) | ((with_reducible refine gate_callee (f := 65) rfl ?_); refine goesL_ (some 75) rfl rfl Try.func65 (by kernel_rfl) rfl #[.slice Ao87 t493.length co87, .int .i64 1] rfl (by (try simp only [List.map_toArray, List.map_cons, List.map_nil]); first | done | (rw [show t493.length = t466.length from (Kd.R_reads' HO_11.out).1.symm] <;> rfl) | rfl | (simp only [List.length_drop, List.length_take]; rfl)) ?_; (with_reducible refine (laws_heldByteS.calls kj42 _ _ t493 1 t494 _ ?side1 ?side2 A61.out).mono ?_); (case side1 => exact Ch HO_11); (case side2 => rw [show t493.length = t466.length from (Kd.R_reads' HO_11.out).1.symm]; exact (Kd.R_reads' HO_11.out).2.1); rintro e w' ⟨rfl, ⟨nd, rfl⟩⟩; refine ⟨_, rfl, ?_⟩))
 go_ret
 exact ⟨by first | rfl | (simp [errW_none, errW_some] <;> rfl) | (simp [*, errW_none, errW_some] <;> rfl), wB⟩
 }
 }
 }
 }
 )
 }
 {
 replace c41 := Bool.eq_false_iff.mpr c41
 subst c41
 have H1 : (some false) = some r := by rw [if_neg (show ¬ (false = true) by decide)] at H; exact H
 clear H
 have H := H1
 clear H1
 obtain rfl := Option.some.inj H
 try go_wp2
 have n0_ := Aside0.mk (Kd.R_drew HO_8.out)
 have n1_ := Aside0.mk (Kd.R_drew HO_11.out)
 have n2_ := Aside0.mk (Kd.R_drew HO_466010.out)
 have n3_ := Aside0.mk (Kd.R_drew HO_466011.out)
 have n4_ := Aside0.mk (blk_drew BK427.out)
 have n5_ := Aside0.mk (blk_drew BK465.out)
 have n6_ := Aside0.mk (below_drew1 HB.out)
 clear HO_8
 clear HO_11
 clear HO_466010
 clear HO_466011
 clear BK427
 clear BK465
 clear HB
 have HO_8 := n0_
 have HO_11 := n1_
 have HO_466010 := n2_
 have HO_466011 := n3_
 have BK427 := n4_
 have BK465 := n5_
 have HB := n6_
 clear n0_ n1_ n2_ n3_ n4_ n5_ n6_
 refine start_ (n := 5) (S := fun w' => w'.cell? ⟨gb465, 0, none⟩ = some (.int .i64 t449) ∧ w'.cell? ⟨gb465, 1, none⟩ = some (.int .i64 t450) ∧ w'.cell? ⟨gb465, 2, none⟩ = some (.int .i64 t451) ∧ w'.cell? ⟨gb465, 3, none⟩ = some (.int .i64 t452) ∧ w'.cell? ⟨gb465, 4, none⟩ = some (.int .i64 t453) ∧ w'.cell? ⟨gb465, 5, none⟩ = some (.int .i64 t454) ∧ w'.cell? ⟨gb465, 6, none⟩ = some (.int .i64 t455) ∧ w'.cell? ⟨gb465, 7, none⟩ = some (.bool t456) ∧ w'.cell? ⟨gb465, 8, none⟩ = some (.int .i64 t457) ∧ w'.cell? ⟨gb465, 9, none⟩ = some (.bool t458) ∧ w'.cell? ⟨gb465, 10, none⟩ = some (.slice Ao27 t459.length co27) ∧ w'.cell? ⟨gb465, 11, none⟩ = some (.slice Ao28 t462.length co28) ∧ w'.cell? ⟨gb427, 0, none⟩ = some (.int .i64 a0_0) ∧ w'.cell? ⟨gb427, 1, none⟩ = some (.int .i64 a0_1) ∧ w'.cell? ⟨gb427, 2, none⟩ = some (.int .i64 a0_2) ∧ w'.cell? ⟨gb427, 3, none⟩ = some (.int .i64 a0_3) ∧ w'.cell? ⟨gb427, 4, none⟩ = some (.int .i64 a0_4) ∧ w'.cell? ⟨gb427, 5, none⟩ = some (.int .i64 a0_5) ∧ w'.cell? ⟨gb427, 6, none⟩ = some (.int .i64 a0_6) ∧ w'.cell? ⟨gb427, 7, none⟩ = some (.bool a0_7) ∧ w'.cell? ⟨gb427, 8, none⟩ = some (.int .i64 a0_8) ∧ w'.cell? ⟨gb427, 9, none⟩ = some (.bool a0_9) ∧ w'.cell? ⟨gb427, 10, none⟩ = some (.slice A0_10 l0_10.length c0_10) ∧ w'.cell? ⟨gb427, 11, none⟩ = some (.slice A0_11 l0_11.length c0_11)) (ds := []) #[false, false, false, false, false] (by kernel_rfl) rfl rfl ⟨(blk_cell BK465.out 0).trans rfl, (blk_cell BK465.out 1).trans rfl, (blk_cell BK465.out 2).trans rfl, (blk_cell BK465.out 3).trans rfl, (blk_cell BK465.out 4).trans rfl, (blk_cell BK465.out 5).trans rfl, (blk_cell BK465.out 6).trans rfl, (blk_cell BK465.out 7).trans rfl, (blk_cell BK465.out 8).trans rfl, (blk_cell BK465.out 9).trans rfl, (blk_cell BK465.out 10).trans rfl, (blk_cell BK465.out 11).trans rfl, (blk_cell BK427.out 0).trans rfl, (blk_cell BK427.out 1).trans rfl, (blk_cell BK427.out 2).trans rfl, (blk_cell BK427.out 3).trans rfl, (blk_cell BK427.out 4).trans rfl, (blk_cell BK427.out 5).trans rfl, (blk_cell BK427.out 6).trans rfl, (blk_cell BK427.out 7).trans rfl, (blk_cell BK427.out 8).trans rfl, (blk_cell BK427.out 9).trans rfl, (blk_cell BK427.out 10).trans rfl, (blk_cell BK427.out 11).trans rfl⟩ (fun hHeld => ?_)
 generalize wc.drew = w89 at HO_8 HO_11 HO_466010 HO_466011 BK427 BK465 HB hHeld ⊢
 refine take_ (i := 0) (N := some 49) (v := ?_) (a' := ?_) #[true, false, false, false, false] rfl rfl (by kernel_rfl) (fun _ _ _ h => h) (Or.inl ⟨by rfl, ?_⟩) hHeld ?_ ?_
 rotate_left
 {
 rintro w' ⟨s0, s1, s2, s3, s4, s5, s6, s7, s8, s9, s10, s11, s12, s13, s14, s15, s16, s17, s18, s19, s20, s21, s22, s23⟩
 go_simp
 with_reducible rfl
 }
 rotate_left
 {
 simp only [Act.put, List.setIfInBounds_toArray, List.set_cons_zero, List.set_cons_succ, i64_w, i32_w]
 rfl
 }
 refine take_ (i := 1) (N := some 50) (v := ?_) (a' := ?_) #[true, true, false, false, false] rfl rfl (by kernel_rfl) (fun _ _ _ h => h) (Or.inl ⟨by rfl, ?_⟩) hHeld ?_ ?_
 rotate_left
 {
 rintro w' ⟨s0, s1, s2, s3, s4, s5, s6, s7, s8, s9, s10, s11, s12, s13, s14, s15, s16, s17, s18, s19, s20, s21, s22, s23⟩
 go_simp
 with_reducible rfl
 }
 rotate_left
 {
 simp only [Act.put, List.setIfInBounds_toArray, List.set_cons_zero, List.set_cons_succ, i64_w, i32_w]
 rfl
 }
 refine one_ (i := 2) (N := some 51) #[true, true, true, false, false] rfl rfl (by kernel_rfl) (by decide) (fun K hK => ?_)
 refine goes_ Try.func31 (by kernel_rfl) rfl #[.agg #[.int .i64 a0_0, .int .i64 a0_1, .int .i64 a0_2, .int .i64 a0_3, .int .i64 a0_4, .int .i64 a0_5, .int .i64 a0_6, .bool a0_7, .int .i64 a0_8, .bool a0_9, .slice A0_10 l0_10.length c0_10, .slice A0_11 l0_11.length c0_11]] (by rfl) rfl rfl wT ?_
 with_reducible refine (laws_toSegment.calls kj12 a0_0 a0_1 a0_2 a0_3 a0_4 a0_5 a0_6 a0_7 a0_8 a0_9 _ _ l0_10 _ _ l0_11 t471 t472 t473 t474 t475 t476 t477 t478 t479 t480 t481 t484 _ ?side1 ?side2 ?side3 ?side4 A39.out).mono ?_
 (case side1 => exact Kd.C_below HR0_10.out wB)
 (case side2 => exact HC0_10.out)
 (case side3 => exact Kd.C_below HR0_11.out wB)
 (case side4 => exact HC0_11.out)
 rintro e w90 ⟨v482, v485, rfl, ho0, ho1, hb⟩
 refine ⟨_, rfl, ?_⟩
 have n0_ := Aside0.mk (Kd.R_elder' (Rh HO_8) (Kd.R_base ho1) hb)
 have n1_ := Aside0.mk (Kd.R_elder' (Rh HO_11) (Kd.R_base ho1) hb)
 have n2_ := Aside0.mk (Kd.R_elder' (Rh HO_466010) (Kd.R_base ho0) hb)
 have n3_ := Aside0.mk (Kd.R_elder' (Rh HO_466011) (Kd.R_base ho1) hb)
 have n4_ := Aside0.mk (Kd.R_lower (Kd.R_new' ho0 (Kd.R_lt (Rh HO_466010))) (below_size wB))
 have n5_ := Aside0.mk (Kd.R_lower (Kd.R_new' (Kd.R_new' (Kd.R_new' ho1 (Kd.R_lt (Rh HO_8))) (Kd.R_lt (Rh HO_11))) (Kd.R_lt (Rh HO_466011))) (below_size wB))
 have n6_ := Aside0.mk (blk_below (Bh BK427) hb)
 have n7_ := Aside0.mk (blk_below (Bh BK465) hb)
 have n8_ := Aside0.mk (below_step wB hb)
 clear HO_8
 clear HO_11
 clear HO_466010
 clear HO_466011
 clear BK427
 clear BK465
 clear HB
 have HO_8 := n0_
 have HO_11 := n1_
 have HO_466010 := n2_
 have HO_466011 := n3_
 have HO483 := n4_
 have HO486 := n5_
 have BK427 := n6_
 have BK465 := n7_
 have HB := n8_
 clear n0_ n1_ n2_ n3_ n4_ n5_ n6_ n7_ n8_
 (try clear hb)
 (try clear hb2)
 (try clear hk)
 (try clear hi)
 (try clear ho0)
 (try clear ho1)
 obtain ⟨Ao91, co91, eo91⟩ := Kd.R_slice HO483.out
 (first | subst eo91 | (injection eo91 with f1_ f2_ f3_; have f4_ := f1_.symm; have f5_ := f3_.symm; clear f1_ f2_ f3_; subst f4_; subst f5_))
 obtain ⟨Ao92, co92, eo92⟩ := Kd.R_slice HO486.out
 (first | subst eo92 | (injection eo92 with f1_ f2_ f3_; have f4_ := f1_.symm; have f5_ := f3_.symm; clear f1_ f2_ f3_; subst f4_; subst f5_))
 refine hK.out _ _ ⟨(blk_cell BK465.out 0).trans rfl, (blk_cell BK465.out 1).trans rfl, (blk_cell BK465.out 2).trans rfl, (blk_cell BK465.out 3).trans rfl, (blk_cell BK465.out 4).trans rfl, (blk_cell BK465.out 5).trans rfl, (blk_cell BK465.out 6).trans rfl, (blk_cell BK465.out 7).trans rfl, (blk_cell BK465.out 8).trans rfl, (blk_cell BK465.out 9).trans rfl, (blk_cell BK465.out 10).trans rfl, (blk_cell BK465.out 11).trans rfl, (blk_cell BK427.out 0).trans rfl, (blk_cell BK427.out 1).trans rfl, (blk_cell BK427.out 2).trans rfl, (blk_cell BK427.out 3).trans rfl, (blk_cell BK427.out 4).trans rfl, (blk_cell BK427.out 5).trans rfl, (blk_cell BK427.out 6).trans rfl, (blk_cell BK427.out 7).trans rfl, (blk_cell BK427.out 8).trans rfl, (blk_cell BK427.out 9).trans rfl, (blk_cell BK427.out 10).trans rfl, (blk_cell BK427.out 11).trans rfl⟩ (fun hHeld => ?_)
 clear hK K
 refine norm_ (a' := ?_) ?_ ?_
 rotate_left
 {
 show Act.put _ (some 51) _ = _
 simp only [Act.put, List.setIfInBounds_toArray, List.set_cons_zero, List.set_cons_succ, i64_w, i32_w]
 rfl
 }
 refine one_ (i := 3) (N := some 52) #[true, true, true, true, false] rfl rfl (by kernel_rfl) (by decide) (fun K hK => ?_)
 refine goes_ Try.func33 (by kernel_rfl) rfl #[.agg #[.int .i64 t449, .int .i64 t450, .int .i64 t451, .int .i64 t452, .int .i64 t453, .int .i64 t454, .int .i64 t455, .bool t456, .int .i64 t457, .bool t458, .slice Ao27 t459.length co27, .slice Ao28 t462.length co28], .agg #[.int .i64 t471, .int .i64 t472, .int .i64 t473, .int .i64 t474, .int .i64 t475, .int .i64 t476, .int .i64 t477, .bool t478, .int .i64 t479, .bool t480, .slice Ao91 t481.length co91, .slice Ao92 t484.length co92]] (by rfl) rfl rfl wT ?_
 with_reducible refine (laws_eqSegment.calls kj12 t449 t450 t451 t452 t453 t454 t455 t456 t457 t458 _ _ t459 _ _ t462 t471 t472 t473 t474 t475 t476 t477 t478 t479 t480 _ _ t481 _ _ t484 false _ ?side1 ?side2 ?side3 ?side4 ?side5 ?side6 ?side7 ?side8 A40.out).mono ?_
 (case side1 => exact Ch HO_466010)
 (case side2 => exact (Kd.R_reads' HO_466010.out).2.1)
 (case side3 => exact Ch HO_466011)
 (case side4 => exact (Kd.R_reads' HO_466011.out).2.1)
 (case side5 => exact Ch HO483)
 (case side6 => exact (Kd.R_reads' HO483.out).2.1)
 (case side7 => exact Ch HO486)
 (case side8 => exact (Kd.R_reads' HO486.out).2.1)
 rintro e w93 ⟨rfl, hb⟩
 refine ⟨_, rfl, ?_⟩
 have n0_ := Aside0.mk (Kd.R_below (Rh HO_8) hb)
 have n1_ := Aside0.mk (Kd.R_below (Rh HO_11) hb)
 have n2_ := Aside0.mk (Kd.R_below (Rh HO_466010) hb)
 have n3_ := Aside0.mk (Kd.R_below (Rh HO_466011) hb)
 have n4_ := Aside0.mk (Kd.R_below (Rh HO483) hb)
 have n5_ := Aside0.mk (Kd.R_below (Rh HO486) hb)
 have n6_ := Aside0.mk (blk_below (Bh BK427) hb)
 have n7_ := Aside0.mk (blk_below (Bh BK465) hb)
 have n8_ := Aside0.mk (below_step wB hb)
 clear HO_8
 clear HO_11
 clear HO_466010
 clear HO_466011
 clear HO483
 clear HO486
 clear BK427
 clear BK465
 clear HB
 have HO_8 := n0_
 have HO_11 := n1_
 have HO_466010 := n2_
 have HO_466011 := n3_
 have HO483 := n4_
 have HO486 := n5_
 have BK427 := n6_
 have BK465 := n7_
 have HB := n8_
 clear n0_ n1_ n2_ n3_ n4_ n5_ n6_ n7_ n8_
 (try clear hb)
 (try clear hb2)
 (try clear hk)
 (try clear hi)
 refine hK.out _ _ ⟨(blk_cell BK465.out 0).trans rfl, (blk_cell BK465.out 1).trans rfl, (blk_cell BK465.out 2).trans rfl, (blk_cell BK465.out 3).trans rfl, (blk_cell BK465.out 4).trans rfl, (blk_cell BK465.out 5).trans rfl, (blk_cell BK465.out 6).trans rfl, (blk_cell BK465.out 7).trans rfl, (blk_cell BK465.out 8).trans rfl, (blk_cell BK465.out 9).trans rfl, (blk_cell BK465.out 10).trans rfl, (blk_cell BK465.out 11).trans rfl, (blk_cell BK427.out 0).trans rfl, (blk_cell BK427.out 1).trans rfl, (blk_cell BK427.out 2).trans rfl, (blk_cell BK427.out 3).trans rfl, (blk_cell BK427.out 4).trans rfl, (blk_cell BK427.out 5).trans rfl, (blk_cell BK427.out 6).trans rfl, (blk_cell BK427.out 7).trans rfl, (blk_cell BK427.out 8).trans rfl, (blk_cell BK427.out 9).trans rfl, (blk_cell BK427.out 10).trans rfl, (blk_cell BK427.out 11).trans rfl⟩ (fun hHeld => ?_)
 clear hK K
 refine norm_ (a' := ?_) ?_ ?_
 rotate_left
 {
 show Act.put _ (some 52) _ = _
 simp only [Act.put, List.setIfInBounds_toArray, List.set_cons_zero, List.set_cons_succ, i64_w, i32_w]
 rfl
 }
 refine pure_ (i := 4) (N := some 53) (v := ?_) (a' := ?_) #[true, true, true, true, true] rfl rfl (by kernel_rfl) (fun _ _ _ h => h) (Or.inl ⟨by rfl, ?_⟩) ?_ ?_
 rotate_left
 {
 intro w'
 go_simp
 with_reducible rfl
 }
 rotate_left
 {
 simp only [Act.put, List.setIfInBounds_toArray, List.set_cons_zero, List.set_cons_succ, i64_w, i32_w]
 rfl
 }
 refine done_ (by kernel_rfl) ?_
 try go_wp2
 go_ret
 exact ⟨by first | rfl | (simp [errW_none, errW_some] <;> rfl) | (simp [*, errW_none, errW_some] <;> rfl), wB⟩
 }
 }
 }
 )
 }

end Go.Proofs.Ytobaoffcepmeiaa.PFnExactEncodeSegment
