-- Written for this claim by a program of this session (wip/mkprint.py: the print, turned at a few places). Not trusted: Lean checks it.
import Derived.Test.YtobaoffcepmeiaaPFnExactEncodeSegmentx0
import Derived.Test.YtobaoffcepmeiaaPFnExactEncodeSegmentx8
import Derived.Test.YtobaoffcepmeiaaPFnExactEncodeSegmentx9
namespace Go.Proofs.Ytobaoffcepmeiaa.PFnExactEncodeSegment
open Go.RowKit Go.Proofs.YtobaoffcepmeiaaW.PrintWords Go.Proofs.YtobaoffcepmeiaaW.PrintLast Go.Proofs.YtobaoffcepmeiaaW.PrintMore
attribute [local go_sem] max2_int min2_int max_two min_two max_three min_three max_four min_four   -- for this text's walks alone
set_option linter.unusedVariables false
set_option linter.unusedSimpArgs false

/-! ### impl_EncodeSegment: function 67 -/
mutual
def impl_EncodeSegment.j0 : Nat → Int → Int → Bool → Int → Int → Int → Int → Int → Int → Int → Bool → Int → Bool → List (S157) → List Int → Option (List Int × Int)
  | 0, _, _, _, _, _, _, _, _, _, _, _, _, _, _, _ => none
  | k + 1, x1, x2, x27, x340000, x340001, x340002, x340003, x340004, x340005, x340006, x340007, x340008, x340009, x340010, x340011 => if x27 = true then (some (([] : List Int), 1)) else (if x340006 = 0 then (impl_EncodeSegment.j1 k x1 x2 ([] : List Int) x340000 x340001 x340002 x340003 x340004 x340005 x340006 x340007 x340008 x340009 x340010 x340011) else ((some (([2, 4] : List Int) : List Int)).bind fun y343 => (if ([] : List Int).length + y343.length < 140737488355328 then ((impl_put.f k (([] : List Int) ++ y343) 2 x340006).bind fun t349 => (impl_EncodeSegment.j1 k x1 x2 t349 x340000 x340001 x340002 x340003 x340004 x340005 x340006 x340007 x340008 x340009 x340010 x340011)) else (none))))
def impl_EncodeSegment.j1 : Nat → Int → Int → List Int → Int → Int → Int → Int → Int → Int → Int → Bool → Int → Bool → List (S157) → List Int → Option (List Int × Int)
  | 0, _, _, _, _, _, _, _, _, _, _, _, _, _, _, _ => none
  | k + 1, x1, x2, x8, x340000, x340001, x340002, x340003, x340004, x340005, x340006, x340007, x340008, x340009, x340010, x340011 => if x340007 = true then ((some (([1, 3, 3, (x340008) % 256] : List Int) : List Int)).bind fun y352 => (if x8.length + y352.length < 140737488355328 then (impl_EncodeSegment.j2 k x1 x2 (x8 ++ y352) x340000 x340001 x340002 x340003 x340004 x340005 x340006 x340007 x340008 x340009 x340010 x340011) else (none))) else (impl_EncodeSegment.j2 k x1 x2 x8 x340000 x340001 x340002 x340003 x340004 x340005 x340006 x340007 x340008 x340009 x340010 x340011)
def impl_EncodeSegment.j2 : Nat → Int → Int → List Int → Int → Int → Int → Int → Int → Int → Int → Bool → Int → Bool → List (S157) → List Int → Option (List Int × Int)
  | 0, _, _, _, _, _, _, _, _, _, _, _, _, _, _, _ => none
  | k + 1, x1, x2, x8, x340000, x340001, x340002, x340003, x340004, x340005, x340006, x340007, x340008, x340009, x340010, x340011 => if x340009 = true then ((some (([1, 1, 4, 2] : List Int) : List Int)).bind fun y358 => (if x8.length + y358.length < 140737488355328 then (impl_EncodeSegment.j3 k x1 x2 (x8 ++ y358) x340000 x340001 x340002 x340003 x340004 x340005 x340006 x340007 x340008 x340009 x340010 x340011) else (none))) else (impl_EncodeSegment.j3 k x1 x2 x8 x340000 x340001 x340002 x340003 x340004 x340005 x340006 x340007 x340008 x340009 x340010 x340011)
def impl_EncodeSegment.j3 : Nat → Int → Int → List Int → Int → Int → Int → Int → Int → Int → Int → Bool → Int → Bool → List (S157) → List Int → Option (List Int × Int)
  | 0, _, _, _, _, _, _, _, _, _, _, _, _, _, _, _ => none
  | k + 1, x1, x2, x8, x340000, x340001, x340002, x340003, x340004, x340005, x340006, x340007, x340008, x340009, x340010, x340011 => if (x340010.length : Int) > 0 then ((some (([1, 1, 5, (wrap64 ((wrap64 (8 * (x340010.length : Int))) + 2)) % 256] : List Int) : List Int)).bind fun y364 => (if x8.length + y364.length < 140737488355328 then (impl_EncodeSegment.l0 k x1 x2 (x8 ++ y364) x340010 (x340010.length : Int) 0 x340000 x340001 x340002 x340003 x340004 x340005 x340006 x340007 x340008 x340009 x340010 x340011) else (none))) else (impl_EncodeSegment.j5 k x1 x2 x8 x340000 x340001 x340002 x340003 x340004 x340005 x340006 x340007 x340008 x340009 x340010 x340011)
def impl_EncodeSegment.j5 : Nat → Int → Int → List Int → Int → Int → Int → Int → Int → Int → Int → Bool → Int → Bool → List (S157) → List Int → Option (List Int × Int)
  | 0, _, _, _, _, _, _, _, _, _, _, _, _, _, _, _ => none
  | k + 1, x1, x2, x8, x340000, x340001, x340002, x340003, x340004, x340005, x340006, x340007, x340008, x340009, x340010, x340011 => if (wrap64 ((wrap64 (20 + (x8.length : Int))) + (x340011.length : Int))) > 65515 then (some (([] : List Int), 7)) else ((impl_put.f k ([] : List Int) 2 x340000).bind fun t378 => ((impl_put.f k t378 2 x340001).bind fun t381 => ((impl_put.f k t381 4 x340002).bind fun t384 => ((impl_put.f k t384 4 x340003).bind fun t387 => ((some (([(wrap64 ((wrap64 (Int.tdiv (wrap64 (20 + (x8.length : Int))) 4)) * 16)) % 256, (x340004) % 256] : List Int) : List Int)).bind fun y390 => (if t387.length + y390.length < 140737488355328 then ((impl_put.f k (t387 ++ y390) 2 x340005).bind fun t396 => ((some (([0, 0, 0, 0] : List Int) : List Int)).bind fun y399 => (if t396.length + y399.length < 140737488355328 then ((some (t396 ++ y399 : List Int)).bind fun y402 => (if y402.length + x8.length < 140737488355328 then ((some (y402 ++ x8 : List Int)).bind fun y405 => (if y405.length + x340011.length < 140737488355328 then ((some (y405 ++ x340011 : List Int)).bind fun y408 => ((impl_FalseHead.f k x1 x2 6 (y408.length : Int)).bind fun t411 => (if t411.length + y408.length < 140737488355328 then ((impl_Checksum.f k (t411 ++ y408)).bind fun t417 => (if 16 < (y408.length : Int) then (if 17 < (y408.length : Int) then (some (((y408.set (16 : Int).toNat ((t417 / 256) % 256)).set (17 : Int).toNat ((t417) % 256)), 0)) else (none)) else (none))) else (none)))) else (none))) else (none))) else (none)))) else (none)))))))
def impl_EncodeSegment.l0 : Nat → Int → Int → List Int → List (S157) → Int → Int → Int → Int → Int → Int → Int → Int → Int → Bool → Int → Bool → List (S157) → List Int → Option (List Int × Int)
  | 0, _, _, _, _, _, _, _, _, _, _, _, _, _, _, _, _, _, _ => none
  | k + 1, x1, x2, x8, x63, x64, x65, x340000, x340001, x340002, x340003, x340004, x340005, x340006, x340007, x340008, x340009, x340010, x340011 => if x65 < x64 then (if 0 ≤ x65 then (if x65 < (x63.length : Int) then ((impl_put.f k x8 4 ((rd_T157 x63 x65).f0)).bind fun t372 => ((impl_put.f k t372 4 ((rd_T157 x63 x65).f1)).bind fun t375 => (impl_EncodeSegment.l0 k x1 x2 t375 x63 x64 (wrap64 (x65 + 1)) x340000 x340001 x340002 x340003 x340004 x340005 x340006 x340007 x340008 x340009 x340010 x340011))) else (none)) else (none)) else (impl_EncodeSegment.j5 k x1 x2 x8 x340000 x340001 x340002 x340003 x340004 x340005 x340006 x340007 x340008 x340009 x340010 x340011)
end
def impl_EncodeSegment.f (k : Nat) (a0_0 : Int) (a0_1 : Int) (a0_2 : Int) (a0_3 : Int) (a0_4 : Int) (a0_5 : Int) (a0_6 : Int) (a0_7 : Bool) (a0_8 : Int) (a0_9 : Bool) (l0_10 : List (S157)) (l0_11 : List Int) (a1 : Int) (a2 : Int) : Option (List Int × Int) := (impl_okSegment.f k a0_0 a0_1 a0_2 a0_3 a0_4 a0_5 a0_6 a0_7 a0_8 a0_9 l0_10 l0_11).bind fun t340 => (if t340 = true then ((impl_isAddr.f a1).bind fun t341 => (if t341 = true then ((impl_isAddr.f a2).bind fun t342 => (impl_EncodeSegment.j0 k a1 a2 (!t342) a0_0 a0_1 a0_2 a0_3 a0_4 a0_5 a0_6 a0_7 a0_8 a0_9 l0_10 l0_11)) else (impl_EncodeSegment.j0 k a1 a2 true a0_0 a0_1 a0_2 a0_3 a0_4 a0_5 a0_6 a0_7 a0_8 a0_9 l0_10 l0_11))) else (impl_EncodeSegment.j0 k a1 a2 true a0_0 a0_1 a0_2 a0_3 a0_4 a0_5 a0_6 a0_7 a0_8 a0_9 l0_10 l0_11))
theorem impl_EncodeSegment.mono_l : ∀ k, (∀ y0 y1 y2 y3 y4 y5 y6 y7 y8 y9 y10 y11 y12 y13 y14, LeO (impl_EncodeSegment.j0 k y0 y1 y2 y3 y4 y5 y6 y7 y8 y9 y10 y11 y12 y13 y14) (impl_EncodeSegment.j0 (k + 1) y0 y1 y2 y3 y4 y5 y6 y7 y8 y9 y10 y11 y12 y13 y14)) ∧ (∀ y0 y1 y2 y3 y4 y5 y6 y7 y8 y9 y10 y11 y12 y13 y14, LeO (impl_EncodeSegment.j1 k y0 y1 y2 y3 y4 y5 y6 y7 y8 y9 y10 y11 y12 y13 y14) (impl_EncodeSegment.j1 (k + 1) y0 y1 y2 y3 y4 y5 y6 y7 y8 y9 y10 y11 y12 y13 y14)) ∧ (∀ y0 y1 y2 y3 y4 y5 y6 y7 y8 y9 y10 y11 y12 y13 y14, LeO (impl_EncodeSegment.j2 k y0 y1 y2 y3 y4 y5 y6 y7 y8 y9 y10 y11 y12 y13 y14) (impl_EncodeSegment.j2 (k + 1) y0 y1 y2 y3 y4 y5 y6 y7 y8 y9 y10 y11 y12 y13 y14)) ∧ (∀ y0 y1 y2 y3 y4 y5 y6 y7 y8 y9 y10 y11 y12 y13 y14, LeO (impl_EncodeSegment.j3 k y0 y1 y2 y3 y4 y5 y6 y7 y8 y9 y10 y11 y12 y13 y14) (impl_EncodeSegment.j3 (k + 1) y0 y1 y2 y3 y4 y5 y6 y7 y8 y9 y10 y11 y12 y13 y14)) ∧ (∀ y0 y1 y2 y3 y4 y5 y6 y7 y8 y9 y10 y11 y12 y13 y14, LeO (impl_EncodeSegment.j5 k y0 y1 y2 y3 y4 y5 y6 y7 y8 y9 y10 y11 y12 y13 y14) (impl_EncodeSegment.j5 (k + 1) y0 y1 y2 y3 y4 y5 y6 y7 y8 y9 y10 y11 y12 y13 y14)) ∧ (∀ y0 y1 y2 y3 y4 y5 y6 y7 y8 y9 y10 y11 y12 y13 y14 y15 y16 y17, LeO (impl_EncodeSegment.l0 k y0 y1 y2 y3 y4 y5 y6 y7 y8 y9 y10 y11 y12 y13 y14 y15 y16 y17) (impl_EncodeSegment.l0 (k + 1) y0 y1 y2 y3 y4 y5 y6 y7 y8 y9 y10 y11 y12 y13 y14 y15 y16 y17))
  | 0 => ⟨fun _ _ _ _ _ _ _ _ _ _ _ _ _ _ _ r h => by simp [impl_EncodeSegment.j0] at h, fun _ _ _ _ _ _ _ _ _ _ _ _ _ _ _ r h => by simp [impl_EncodeSegment.j1] at h, fun _ _ _ _ _ _ _ _ _ _ _ _ _ _ _ r h => by simp [impl_EncodeSegment.j2] at h, fun _ _ _ _ _ _ _ _ _ _ _ _ _ _ _ r h => by simp [impl_EncodeSegment.j3] at h, fun _ _ _ _ _ _ _ _ _ _ _ _ _ _ _ r h => by simp [impl_EncodeSegment.j5] at h, fun _ _ _ _ _ _ _ _ _ _ _ _ _ _ _ _ _ _ r h => by simp [impl_EncodeSegment.l0] at h⟩
  | k + 1 => by
    obtain ⟨ih0, ih1, ih2, ih3, ih4, ih5⟩ := impl_EncodeSegment.mono_l k
    refine ⟨?_, ?_, ?_, ?_, ?_, ?_⟩
    · intro y0 y1 y2 y3 y4 y5 y6 y7 y8 y9 y10 y11 y12 y13 y14
      unfold impl_EncodeSegment.j0
      repeat' first
      | (with_reducible exact ih0 _ _ _ _ _ _ _ _ _ _ _ _ _ _ _)
      | (with_reducible exact ih1 _ _ _ _ _ _ _ _ _ _ _ _ _ _ _)
      | (with_reducible exact ih2 _ _ _ _ _ _ _ _ _ _ _ _ _ _ _)
      | (with_reducible exact ih3 _ _ _ _ _ _ _ _ _ _ _ _ _ _ _)
      | (with_reducible exact ih4 _ _ _ _ _ _ _ _ _ _ _ _ _ _ _)
      | (with_reducible exact ih5 _ _ _ _ _ _ _ _ _ _ _ _ _ _ _ _ _ _)
      | (with_reducible exact impl_Checksum.mono _ _)
      | (with_reducible exact impl_FalseHead.mono _ _ _ _ _)
      | (with_reducible exact impl_okSegment.mono _ _ _ _ _ _ _ _ _ _ _ _ _)
      | (with_reducible exact impl_put.mono _ _ _ _)
      | (with_reducible exact LeO.refl _)
      | (with_reducible exact LeO.none _)
      | (with_reducible refine LeO.ite ?_ ?_)
      | (with_reducible refine LeO.bind ?_ (fun _ => ?_))
      | exact ih0 _ _ _ _ _ _ _ _ _ _ _ _ _ _ _
      | exact ih1 _ _ _ _ _ _ _ _ _ _ _ _ _ _ _
      | exact ih2 _ _ _ _ _ _ _ _ _ _ _ _ _ _ _
      | exact ih3 _ _ _ _ _ _ _ _ _ _ _ _ _ _ _
      | exact ih4 _ _ _ _ _ _ _ _ _ _ _ _ _ _ _
      | exact ih5 _ _ _ _ _ _ _ _ _ _ _ _ _ _ _ _ _ _
      | exact impl_Checksum.mono _ _
      | exact impl_FalseHead.mono _ _ _ _ _
      | exact impl_okSegment.mono _ _ _ _ _ _ _ _ _ _ _ _ _
      | exact impl_put.mono _ _ _ _
      | exact LeO.none _
      | refine LeO.ite ?_ ?_
      | refine LeO.bind ?_ (fun _ => ?_)
    · intro y0 y1 y2 y3 y4 y5 y6 y7 y8 y9 y10 y11 y12 y13 y14
      unfold impl_EncodeSegment.j1
      repeat' first
      | (with_reducible exact ih0 _ _ _ _ _ _ _ _ _ _ _ _ _ _ _)
      | (with_reducible exact ih1 _ _ _ _ _ _ _ _ _ _ _ _ _ _ _)
      | (with_reducible exact ih2 _ _ _ _ _ _ _ _ _ _ _ _ _ _ _)
      | (with_reducible exact ih3 _ _ _ _ _ _ _ _ _ _ _ _ _ _ _)
      | (with_reducible exact ih4 _ _ _ _ _ _ _ _ _ _ _ _ _ _ _)
      | (with_reducible exact ih5 _ _ _ _ _ _ _ _ _ _ _ _ _ _ _ _ _ _)
      | (with_reducible exact impl_Checksum.mono _ _)
      | (with_reducible exact impl_FalseHead.mono _ _ _ _ _)
      | (with_reducible exact impl_okSegment.mono _ _ _ _ _ _ _ _ _ _ _ _ _)
      | (with_reducible exact impl_put.mono _ _ _ _)
      | (with_reducible exact LeO.refl _)
      | (with_reducible exact LeO.none _)
      | (with_reducible refine LeO.ite ?_ ?_)
      | (with_reducible refine LeO.bind ?_ (fun _ => ?_))
      | exact ih0 _ _ _ _ _ _ _ _ _ _ _ _ _ _ _
      | exact ih1 _ _ _ _ _ _ _ _ _ _ _ _ _ _ _
      | exact ih2 _ _ _ _ _ _ _ _ _ _ _ _ _ _ _
      | exact ih3 _ _ _ _ _ _ _ _ _ _ _ _ _ _ _
      | exact ih4 _ _ _ _ _ _ _ _ _ _ _ _ _ _ _
      | exact ih5 _ _ _ _ _ _ _ _ _ _ _ _ _ _ _ _ _ _
      | exact impl_Checksum.mono _ _
      | exact impl_FalseHead.mono _ _ _ _ _
      | exact impl_okSegment.mono _ _ _ _ _ _ _ _ _ _ _ _ _
      | exact impl_put.mono _ _ _ _
      | exact LeO.none _
      | refine LeO.ite ?_ ?_
      | refine LeO.bind ?_ (fun _ => ?_)
    · intro y0 y1 y2 y3 y4 y5 y6 y7 y8 y9 y10 y11 y12 y13 y14
      unfold impl_EncodeSegment.j2
      repeat' first
      | (with_reducible exact ih0 _ _ _ _ _ _ _ _ _ _ _ _ _ _ _)
      | (with_reducible exact ih1 _ _ _ _ _ _ _ _ _ _ _ _ _ _ _)
      | (with_reducible exact ih2 _ _ _ _ _ _ _ _ _ _ _ _ _ _ _)
      | (with_reducible exact ih3 _ _ _ _ _ _ _ _ _ _ _ _ _ _ _)
      | (with_reducible exact ih4 _ _ _ _ _ _ _ _ _ _ _ _ _ _ _)
      | (with_reducible exact ih5 _ _ _ _ _ _ _ _ _ _ _ _ _ _ _ _ _ _)
      | (with_reducible exact impl_Checksum.mono _ _)
      | (with_reducible exact impl_FalseHead.mono _ _ _ _ _)
      | (with_reducible exact impl_okSegment.mono _ _ _ _ _ _ _ _ _ _ _ _ _)
      | (with_reducible exact impl_put.mono _ _ _ _)
      | (with_reducible exact LeO.refl _)
      | (with_reducible exact LeO.none _)
      | (with_reducible refine LeO.ite ?_ ?_)
      | (with_reducible refine LeO.bind ?_ (fun _ => ?_))
      | exact ih0 _ _ _ _ _ _ _ _ _ _ _ _ _ _ _
      | exact ih1 _ _ _ _ _ _ _ _ _ _ _ _ _ _ _
      | exact ih2 _ _ _ _ _ _ _ _ _ _ _ _ _ _ _
      | exact ih3 _ _ _ _ _ _ _ _ _ _ _ _ _ _ _
      | exact ih4 _ _ _ _ _ _ _ _ _ _ _ _ _ _ _
      | exact ih5 _ _ _ _ _ _ _ _ _ _ _ _ _ _ _ _ _ _
      | exact impl_Checksum.mono _ _
      | exact impl_FalseHead.mono _ _ _ _ _
      | exact impl_okSegment.mono _ _ _ _ _ _ _ _ _ _ _ _ _
      | exact impl_put.mono _ _ _ _
      | exact LeO.none _
      | refine LeO.ite ?_ ?_
      | refine LeO.bind ?_ (fun _ => ?_)
    · intro y0 y1 y2 y3 y4 y5 y6 y7 y8 y9 y10 y11 y12 y13 y14
      unfold impl_EncodeSegment.j3
      repeat' first
      | (with_reducible exact ih0 _ _ _ _ _ _ _ _ _ _ _ _ _ _ _)
      | (with_reducible exact ih1 _ _ _ _ _ _ _ _ _ _ _ _ _ _ _)
      | (with_reducible exact ih2 _ _ _ _ _ _ _ _ _ _ _ _ _ _ _)
      | (with_reducible exact ih3 _ _ _ _ _ _ _ _ _ _ _ _ _ _ _)
      | (with_reducible exact ih4 _ _ _ _ _ _ _ _ _ _ _ _ _ _ _)
      | (with_reducible exact ih5 _ _ _ _ _ _ _ _ _ _ _ _ _ _ _ _ _ _)
      | (with_reducible exact impl_Checksum.mono _ _)
      | (with_reducible exact impl_FalseHead.mono _ _ _ _ _)
      | (with_reducible exact impl_okSegment.mono _ _ _ _ _ _ _ _ _ _ _ _ _)
      | (with_reducible exact impl_put.mono _ _ _ _)
      | (with_reducible exact LeO.refl _)
      | (with_reducible exact LeO.none _)
      | (with_reducible refine LeO.ite ?_ ?_)
      | (with_reducible refine LeO.bind ?_ (fun _ => ?_))
      | exact ih0 _ _ _ _ _ _ _ _ _ _ _ _ _ _ _
      | exact ih1 _ _ _ _ _ _ _ _ _ _ _ _ _ _ _
      | exact ih2 _ _ _ _ _ _ _ _ _ _ _ _ _ _ _
      | exact ih3 _ _ _ _ _ _ _ _ _ _ _ _ _ _ _
      | exact ih4 _ _ _ _ _ _ _ _ _ _ _ _ _ _ _
      | exact ih5 _ _ _ _ _ _ _ _ _ _ _ _ _ _ _ _ _ _
      | exact impl_Checksum.mono _ _
      | exact impl_FalseHead.mono _ _ _ _ _
      | exact impl_okSegment.mono _ _ _ _ _ _ _ _ _ _ _ _ _
      | exact impl_put.mono _ _ _ _
      | exact LeO.none _
      | refine LeO.ite ?_ ?_
      | refine LeO.bind ?_ (fun _ => ?_)
    · intro y0 y1 y2 y3 y4 y5 y6 y7 y8 y9 y10 y11 y12 y13 y14
      unfold impl_EncodeSegment.j5
      repeat' first
      | (with_reducible exact ih0 _ _ _ _ _ _ _ _ _ _ _ _ _ _ _)
      | (with_reducible exact ih1 _ _ _ _ _ _ _ _ _ _ _ _ _ _ _)
      | (with_reducible exact ih2 _ _ _ _ _ _ _ _ _ _ _ _ _ _ _)
      | (with_reducible exact ih3 _ _ _ _ _ _ _ _ _ _ _ _ _ _ _)
      | (with_reducible exact ih4 _ _ _ _ _ _ _ _ _ _ _ _ _ _ _)
      | (with_reducible exact ih5 _ _ _ _ _ _ _ _ _ _ _ _ _ _ _ _ _ _)
      | (with_reducible exact impl_Checksum.mono _ _)
      | (with_reducible exact impl_FalseHead.mono _ _ _ _ _)
      | (with_reducible exact impl_okSegment.mono _ _ _ _ _ _ _ _ _ _ _ _ _)
      | (with_reducible exact impl_put.mono _ _ _ _)
      | (with_reducible exact LeO.refl _)
      | (with_reducible exact LeO.none _)
      | (with_reducible refine LeO.ite ?_ ?_)
      | (with_reducible refine LeO.bind ?_ (fun _ => ?_))
      | exact ih0 _ _ _ _ _ _ _ _ _ _ _ _ _ _ _
      | exact ih1 _ _ _ _ _ _ _ _ _ _ _ _ _ _ _
      | exact ih2 _ _ _ _ _ _ _ _ _ _ _ _ _ _ _
      | exact ih3 _ _ _ _ _ _ _ _ _ _ _ _ _ _ _
      | exact ih4 _ _ _ _ _ _ _ _ _ _ _ _ _ _ _
      | exact ih5 _ _ _ _ _ _ _ _ _ _ _ _ _ _ _ _ _ _
      | exact impl_Checksum.mono _ _
      | exact impl_FalseHead.mono _ _ _ _ _
      | exact impl_okSegment.mono _ _ _ _ _ _ _ _ _ _ _ _ _
      | exact impl_put.mono _ _ _ _
      | exact LeO.none _
      | refine LeO.ite ?_ ?_
      | refine LeO.bind ?_ (fun _ => ?_)
    · intro y0 y1 y2 y3 y4 y5 y6 y7 y8 y9 y10 y11 y12 y13 y14 y15 y16 y17
      unfold impl_EncodeSegment.l0
      repeat' first
      | (with_reducible exact ih0 _ _ _ _ _ _ _ _ _ _ _ _ _ _ _)
      | (with_reducible exact ih1 _ _ _ _ _ _ _ _ _ _ _ _ _ _ _)
      | (with_reducible exact ih2 _ _ _ _ _ _ _ _ _ _ _ _ _ _ _)
      | (with_reducible exact ih3 _ _ _ _ _ _ _ _ _ _ _ _ _ _ _)
      | (with_reducible exact ih4 _ _ _ _ _ _ _ _ _ _ _ _ _ _ _)
      | (with_reducible exact ih5 _ _ _ _ _ _ _ _ _ _ _ _ _ _ _ _ _ _)
      | (with_reducible exact impl_Checksum.mono _ _)
      | (with_reducible exact impl_FalseHead.mono _ _ _ _ _)
      | (with_reducible exact impl_okSegment.mono _ _ _ _ _ _ _ _ _ _ _ _ _)
      | (with_reducible exact impl_put.mono _ _ _ _)
      | (with_reducible exact LeO.refl _)
      | (with_reducible exact LeO.none _)
      | (with_reducible refine LeO.ite ?_ ?_)
      | (with_reducible refine LeO.bind ?_ (fun _ => ?_))
      | exact ih0 _ _ _ _ _ _ _ _ _ _ _ _ _ _ _
      | exact ih1 _ _ _ _ _ _ _ _ _ _ _ _ _ _ _
      | exact ih2 _ _ _ _ _ _ _ _ _ _ _ _ _ _ _
      | exact ih3 _ _ _ _ _ _ _ _ _ _ _ _ _ _ _
      | exact ih4 _ _ _ _ _ _ _ _ _ _ _ _ _ _ _
      | exact ih5 _ _ _ _ _ _ _ _ _ _ _ _ _ _ _ _ _ _
      | exact impl_Checksum.mono _ _
      | exact impl_FalseHead.mono _ _ _ _ _
      | exact impl_okSegment.mono _ _ _ _ _ _ _ _ _ _ _ _ _
      | exact impl_put.mono _ _ _ _
      | exact LeO.none _
      | refine LeO.ite ?_ ?_
      | refine LeO.bind ?_ (fun _ => ?_)
theorem impl_EncodeSegment.mono : ∀ a0 a1 a2 a3 a4 a5 a6 a7 a8 a9 a10 a11 a12 a13 k, LeO (impl_EncodeSegment.f k a0 a1 a2 a3 a4 a5 a6 a7 a8 a9 a10 a11 a12 a13) (impl_EncodeSegment.f (k + 1) a0 a1 a2 a3 a4 a5 a6 a7 a8 a9 a10 a11 a12 a13) := by
 intro a0 a1 a2 a3 a4 a5 a6 a7 a8 a9 a10 a11 a12 a13 k
 obtain ⟨ih0, ih1, ih2, ih3, ih4, ih5⟩ := impl_EncodeSegment.mono_l k
 unfold impl_EncodeSegment.f
 repeat' first
     | (with_reducible exact ih0 _ _ _ _ _ _ _ _ _ _ _ _ _ _ _)
     | (with_reducible exact ih1 _ _ _ _ _ _ _ _ _ _ _ _ _ _ _)
     | (with_reducible exact ih2 _ _ _ _ _ _ _ _ _ _ _ _ _ _ _)
     | (with_reducible exact ih3 _ _ _ _ _ _ _ _ _ _ _ _ _ _ _)
     | (with_reducible exact ih4 _ _ _ _ _ _ _ _ _ _ _ _ _ _ _)
     | (with_reducible exact ih5 _ _ _ _ _ _ _ _ _ _ _ _ _ _ _ _ _ _)
     | (with_reducible exact impl_Checksum.mono _ _)
     | (with_reducible exact impl_FalseHead.mono _ _ _ _ _)
     | (with_reducible exact impl_okSegment.mono _ _ _ _ _ _ _ _ _ _ _ _ _)
     | (with_reducible exact impl_put.mono _ _ _ _)
     | (with_reducible exact LeO.refl _)
     | (with_reducible exact LeO.none _)
     | (with_reducible refine LeO.ite ?_ ?_)
     | (with_reducible refine LeO.bind ?_ (fun _ => ?_))
     | exact ih0 _ _ _ _ _ _ _ _ _ _ _ _ _ _ _
     | exact ih1 _ _ _ _ _ _ _ _ _ _ _ _ _ _ _
     | exact ih2 _ _ _ _ _ _ _ _ _ _ _ _ _ _ _
     | exact ih3 _ _ _ _ _ _ _ _ _ _ _ _ _ _ _
     | exact ih4 _ _ _ _ _ _ _ _ _ _ _ _ _ _ _
     | exact ih5 _ _ _ _ _ _ _ _ _ _ _ _ _ _ _ _ _ _
     | exact impl_Checksum.mono _ _
     | exact impl_FalseHead.mono _ _ _ _ _
     | exact impl_okSegment.mono _ _ _ _ _ _ _ _ _ _ _ _ _
     | exact impl_put.mono _ _ _ _
     | exact LeO.none _
     | refine LeO.ite ?_ ?_
     | refine LeO.bind ?_ (fun _ => ?_)
def impl_EncodeSegment.T16 : Bool × List (List Nat × List Nat) := (true, [([], []), ([], []), ([1], [1]), ([0, 2], [0, 2]), ([], []), ([4], [4]), ([3, 5, 3], [3, 5]), ([6, 6, 0, 1, 2, 3, 4, 5, 6], [0, 6])])
def impl_EncodeSegment.B16 : List Nat := [0, 0, 2, 7, 0, 16, 63, 127]
theorem impl_EncodeSegment.tab16 : rtab .any (opsOf Try.f67 16) = impl_EncodeSegment.T16 := by kernel_rfl
theorem impl_EncodeSegment.bits16 : waitsOk impl_EncodeSegment.T16.2 impl_EncodeSegment.B16 = true := by kernel_rfl
def impl_EncodeSegment.T21 : Bool × List (List Nat × List Nat) := (true, [([], []), ([0], [0]), ([1], [1]), ([], []), ([3], [3]), ([2, 4, 2], [2, 4]), ([], []), ([6], [6]), ([5, 7, 5], [5, 7]), ([], []), ([9], [9]), ([8, 10, 8], [8, 10]), ([11, 11, 0, 1, 2, 3, 4, 5, 6, 7, 8, 9, 10, 11], [11])])
def impl_EncodeSegment.B21 : List Nat := [0, 1, 3, 0, 8, 31, 0, 64, 255, 0, 512, 2047, 4095]
theorem impl_EncodeSegment.tab21 : rtab .any (opsOf Try.f67 21) = impl_EncodeSegment.T21 := by kernel_rfl
theorem impl_EncodeSegment.bits21 : waitsOk impl_EncodeSegment.T21.2 impl_EncodeSegment.B21 = true := by kernel_rfl
set_option maxHeartbeats 8000000 in
set_option maxRecDepth 100000 in
theorem impl_EncodeSegment.calls (k : Nat) (a0_0 : Int) (a0_1 : Int) (a0_2 : Int) (a0_3 : Int) (a0_4 : Int) (a0_5 : Int) (a0_6 : Int) (a0_7 : Bool) (a0_8 : Int) (a0_9 : Bool) (A0_10 : Option Addr) (c0_10 : Nat) (l0_10 : List (S157)) (A0_11 : Option Addr) (c0_11 : Nat) (l0_11 : List Int) (a1 : Int) (a2 : Int) (r1 : List Int) (r2 : Int) (w : World) (hr0_10 : Kd.C k157 w A0_10 l0_10.length l0_10) (hc0_10 : l0_10.length ≤ c0_10) (hr0_11 : Kd.C (Kd.int .u8) w A0_11 l0_11.length l0_11) (hc0_11 : l0_11.length ≤ c0_11) (h : impl_EncodeSegment.f k a0_0 a0_1 a0_2 a0_3 a0_4 a0_5 a0_6 a0_7 a0_8 a0_9 l0_10 l0_11 a1 a2 = some (r1, r2)) :
 Calls Try.prog 67 #[.agg #[.int .i64 a0_0, .int .i64 a0_1, .int .i64 a0_2, .int .i64 a0_3, .int .i64 a0_4, .int .i64 a0_5, .int .i64 a0_6, .bool a0_7, .int .i64 a0_8, .bool a0_9, .slice A0_10 l0_10.length c0_10, .slice A0_11 l0_11.length c0_11], .int .i64 a1, .int .i64 a2] w fun e w' => ∃ v0_ : Value, e = .returned (.tuple #[v0_, .int .i64 r2]) ∧ Kd.R (Kd.int .u8) 5 w' w.heap.size (fun _ => True) v0_ r1 ∧ Below w.heap.size w w' := by
 have hu51 := Try.underlying51
 have hu157 := Try.underlying157
 have HR0_10 := Aside0.mk hr0_10
 have HC0_10 := Aside0.mk hc0_10
 clear hr0_10 hc0_10
 have HR0_11 := Aside0.mk hr0_11
 have HC0_11 := Aside0.mk hc0_11
 clear hr0_11 hc0_11
 have HB := Aside0.mk (Below.refl w.heap.size w)
 have H : ((impl_okSegment.f k a0_0 a0_1 a0_2 a0_3 a0_4 a0_5 a0_6 a0_7 a0_8 a0_9 l0_10 l0_11).bind fun t340 => (if t340 = true then ((impl_isAddr.f a1).bind fun t341 => (if t341 = true then ((impl_isAddr.f a2).bind fun t342 => (impl_EncodeSegment.j0 k a1 a2 (!t342) a0_0 a0_1 a0_2 a0_3 a0_4 a0_5 a0_6 a0_7 a0_8 a0_9 l0_10 l0_11)) else (impl_EncodeSegment.j0 k a1 a2 true a0_0 a0_1 a0_2 a0_3 a0_4 a0_5 a0_6 a0_7 a0_8 a0_9 l0_10 l0_11))) else (impl_EncodeSegment.j0 k a1 a2 true a0_0 a0_1 a0_2 a0_3 a0_4 a0_5 a0_6 a0_7 a0_8 a0_9 l0_10 l0_11))) = some (r1, r2) := h
 clear h
 have HC4 := Aside0.mk H
 clear H
 go_enter Try.func67, Try.ntmps67
 go_upto_region 1 with (first | ((with_reducible refine gate_dst (N := 3) rfl ?_); refine box_event ?hg (N := 3) ?hd (cs := #[.int .i64 a0_0, .int .i64 a0_1, .int .i64 a0_2, .int .i64 a0_3, .int .i64 a0_4, .int .i64 a0_5, .int .i64 a0_6, .bool a0_7, .int .i64 a0_8, .bool a0_9, .slice A0_10 l0_10.length c0_10, .slice A0_11 l0_11.length c0_11]) (t := 51) ?hr ?_; (case hd => rfl); (case hg => rfl); (case hr => first | (go_simp; done) | (go_simp; rfl)); intro gb339 hg w5 hbox hb; have n0_ := Aside0.mk (below_step wB hb); have n1_ := Aside0.mk (hbox); have n2_ := Aside0.mk ((by rw [hg]; exact (below_size wB) : w.heap.size ≤ gb339)); have n3_ := Aside0.mk ((by rw [hg]; exact (below_size wB) : w.heap.size ≤ gb339)); clear HB; have HB := n0_; have BK339 := n1_; have GW339 := n2_; have GE339 := n3_; clear n0_ n1_ n2_ n3_; clear hb hbox hg))
 (try simp only [Act.put, List.setIfInBounds_toArray, List.set_cons_zero, List.set_cons_succ])
 go_cut [27] (fun v27 wc => ∃ (kq : Nat) (x27_3 : Bool), v27 = .bool x27_3 ∧ Aside0 (impl_EncodeSegment.j0 kq a1 a2 x27_3 a0_0 a0_1 a0_2 a0_3 a0_4 a0_5 a0_6 a0_7 a0_8 a0_9 l0_10 l0_11 = some (r1, r2)) ∧ Aside0 (kq ≤ k) ∧ Aside0 (wc.heap[gb339]? = some (.cells #[.int .i64 a0_0, .int .i64 a0_1, .int .i64 a0_2, .int .i64 a0_3, .int .i64 a0_4, .int .i64 a0_5, .int .i64 a0_6, .bool a0_7, .int .i64 a0_8, .bool a0_9, (.slice A0_10 l0_10.length c0_10), (.slice A0_11 l0_11.length c0_11)] 51 (0, 0))) ∧ Aside0 (Below w.heap.size w wc))
 case first => (
 have H := HC4.out
 clear HC4
 replace H := Option.bind_eq_some_iff.mp H
 obtain ⟨t340, A60, H⟩ := H
 replace H : (if t340 = true then ((impl_isAddr.f a1).bind fun t341 => (if t341 = true then ((impl_isAddr.f a2).bind fun t342 => (impl_EncodeSegment.j0 k a1 a2 (!t342) a0_0 a0_1 a0_2 a0_3 a0_4 a0_5 a0_6 a0_7 a0_8 a0_9 l0_10 l0_11)) else (impl_EncodeSegment.j0 k a1 a2 true a0_0 a0_1 a0_2 a0_3 a0_4 a0_5 a0_6 a0_7 a0_8 a0_9 l0_10 l0_11))) else (impl_EncodeSegment.j0 k a1 a2 true a0_0 a0_1 a0_2 a0_3 a0_4 a0_5 a0_6 a0_7 a0_8 a0_9 l0_10 l0_11)) = some (r1, r2) := H
 have A6 := Aside0.mk A60
 clear A60
 by_cases c7 : t340 = true
 {
 subst c7
 have H1 : ((impl_isAddr.f a1).bind fun t341 => (if t341 = true then ((impl_isAddr.f a2).bind fun t342 => (impl_EncodeSegment.j0 k a1 a2 (!t342) a0_0 a0_1 a0_2 a0_3 a0_4 a0_5 a0_6 a0_7 a0_8 a0_9 l0_10 l0_11)) else (impl_EncodeSegment.j0 k a1 a2 true a0_0 a0_1 a0_2 a0_3 a0_4 a0_5 a0_6 a0_7 a0_8 a0_9 l0_10 l0_11))) = some (r1, r2) := by rw [if_pos rfl] at H; exact H
 clear H
 have H := H1
 clear H1
 replace H := Option.bind_eq_some_iff.mp H
 obtain ⟨t341, A80, H⟩ := H
 replace H : (if t341 = true then ((impl_isAddr.f a2).bind fun t342 => (impl_EncodeSegment.j0 k a1 a2 (!t342) a0_0 a0_1 a0_2 a0_3 a0_4 a0_5 a0_6 a0_7 a0_8 a0_9 l0_10 l0_11)) else (impl_EncodeSegment.j0 k a1 a2 true a0_0 a0_1 a0_2 a0_3 a0_4 a0_5 a0_6 a0_7 a0_8 a0_9 l0_10 l0_11)) = some (r1, r2) := H
 have A8 := Aside0.mk A80
 clear A80
 by_cases c9 : t341 = true
 {
 subst c9
 have H1 : ((impl_isAddr.f a2).bind fun t342 => (impl_EncodeSegment.j0 k a1 a2 (!t342) a0_0 a0_1 a0_2 a0_3 a0_4 a0_5 a0_6 a0_7 a0_8 a0_9 l0_10 l0_11)) = some (r1, r2) := by rw [if_pos rfl] at H; exact H
 clear H
 have H := H1
 clear H1
 replace H := Option.bind_eq_some_iff.mp H
 obtain ⟨t342, A100, H⟩ := H
 replace H : (impl_EncodeSegment.j0 k a1 a2 (!t342) a0_0 a0_1 a0_2 a0_3 a0_4 a0_5 a0_6 a0_7 a0_8 a0_9 l0_10 l0_11) = some (r1, r2) := H
 have A10 := Aside0.mk A100
 clear A100
 have H' := Aside0.mk H
 clear H
 obtain ⟨⟨hcz11_0, hcz11_1, hcz11_2, hcz11_3, hcz11_4, hcz11_5, hcz11_6, hcz11_7, hcz11_8, hcz11_9, hcz11_10, hcz11_11⟩, hfz11_0, hfz11_1, hfz11_2, hfz11_3, hfz11_4, hfz11_5, hfz11_6, hfz11_7, hfz11_8, hfz11_9, hfz11_10, hfz11_11⟩ := cells12 BK339.out
 go_wp2_with (first | ((with_reducible refine gate_callee (f := 126) rfl ?_); refine goesL_ (some 16) rfl rfl Try.func126 (by kernel_rfl) rfl #[.agg #[.int .i64 a0_0, .int .i64 a0_1, .int .i64 a0_2, .int .i64 a0_3, .int .i64 a0_4, .int .i64 a0_5, .int .i64 a0_6, .bool a0_7, .int .i64 a0_8, .bool a0_9, .slice A0_10 l0_10.length c0_10, .slice A0_11 l0_11.length c0_11]] rfl wT ?_; (with_reducible refine (impl_okSegment.calls k a0_0 a0_1 a0_2 a0_3 a0_4 a0_5 a0_6 a0_7 a0_8 a0_9 _ _ l0_10 _ _ l0_11 true _ ?side1 ?side2 ?side3 ?side4 A6.out).mono ?_); (case side1 => exact Kd.C_below HR0_10.out wB); (case side2 => exact HC0_10.out); (case side3 => exact Kd.C_below HR0_11.out wB); (case side4 => exact HC0_11.out); rintro e w12 ⟨rfl, hb⟩; refine ⟨_, rfl, ?_⟩; have n0_ := Aside0.mk (blk_below (Bh BK339) hb); have n1_ := Aside0.mk (below_step wB hb); clear BK339; clear HB; have BK339 := n0_; have HB := n1_; clear n0_ n1_; (try clear hb); (try clear hb2); (try clear hk); (try clear hi)) | (go_at_call 83; (with_reducible refine (impl_isAddr.calls a1 true _ A8.out).mono ?_); rintro e w' ⟨rfl, ⟨nd, rfl⟩⟩) | (go_at_call 83; (with_reducible refine (impl_isAddr.calls a2 t342 _ A10.out).mono ?_); rintro e w' ⟨rfl, ⟨nd, rfl⟩⟩))
 go_meet
 case rel => exact ⟨_, (!t342), (by first | rfl | (simp; done) | (simp [*]; done)), H', ⟨by first | omega | exact Nat.le_refl _⟩, ⟨Bh BK339⟩, ⟨wB⟩⟩
 }
 {
 replace c9 := Bool.eq_false_iff.mpr c9
 subst c9
 have H1 : (impl_EncodeSegment.j0 k a1 a2 true a0_0 a0_1 a0_2 a0_3 a0_4 a0_5 a0_6 a0_7 a0_8 a0_9 l0_10 l0_11) = some (r1, r2) := by rw [if_neg (show ¬ (false = true) by decide)] at H; exact H
 clear H
 have H := H1
 clear H1
 have H' := Aside0.mk H
 clear H
 obtain ⟨⟨hcz13_0, hcz13_1, hcz13_2, hcz13_3, hcz13_4, hcz13_5, hcz13_6, hcz13_7, hcz13_8, hcz13_9, hcz13_10, hcz13_11⟩, hfz13_0, hfz13_1, hfz13_2, hfz13_3, hfz13_4, hfz13_5, hfz13_6, hfz13_7, hfz13_8, hfz13_9, hfz13_10, hfz13_11⟩ := cells12 BK339.out
 go_wp2_with (first | ((with_reducible refine gate_callee (f := 126) rfl ?_); refine goesL_ (some 16) rfl rfl Try.func126 (by kernel_rfl) rfl #[.agg #[.int .i64 a0_0, .int .i64 a0_1, .int .i64 a0_2, .int .i64 a0_3, .int .i64 a0_4, .int .i64 a0_5, .int .i64 a0_6, .bool a0_7, .int .i64 a0_8, .bool a0_9, .slice A0_10 l0_10.length c0_10, .slice A0_11 l0_11.length c0_11]] rfl wT ?_; (with_reducible refine (impl_okSegment.calls k a0_0 a0_1 a0_2 a0_3 a0_4 a0_5 a0_6 a0_7 a0_8 a0_9 _ _ l0_10 _ _ l0_11 true _ ?side1 ?side2 ?side3 ?side4 A6.out).mono ?_); (case side1 => exact Kd.C_below HR0_10.out wB); (case side2 => exact HC0_10.out); (case side3 => exact Kd.C_below HR0_11.out wB); (case side4 => exact HC0_11.out); rintro e w14 ⟨rfl, hb⟩; refine ⟨_, rfl, ?_⟩; have n0_ := Aside0.mk (blk_below (Bh BK339) hb); have n1_ := Aside0.mk (below_step wB hb); clear BK339; clear HB; have BK339 := n0_; have HB := n1_; clear n0_ n1_; (try clear hb); (try clear hb2); (try clear hk); (try clear hi)) | (go_at_call 83; (with_reducible refine (impl_isAddr.calls a1 false _ A8.out).mono ?_); rintro e w' ⟨rfl, ⟨nd, rfl⟩⟩))
 go_meet
 case rel => exact ⟨_, (true), (by first | rfl | (simp; done) | (simp [*]; done)), H', ⟨by first | omega | exact Nat.le_refl _⟩, ⟨Bh BK339⟩, ⟨wB⟩⟩
 }
 }
 {
 replace c7 := Bool.eq_false_iff.mpr c7
 subst c7
 have H1 : (impl_EncodeSegment.j0 k a1 a2 true a0_0 a0_1 a0_2 a0_3 a0_4 a0_5 a0_6 a0_7 a0_8 a0_9 l0_10 l0_11) = some (r1, r2) := by rw [if_neg (show ¬ (false = true) by decide)] at H; exact H
 clear H
 have H := H1
 clear H1
 have H' := Aside0.mk H
 clear H
 obtain ⟨⟨hcz15_0, hcz15_1, hcz15_2, hcz15_3, hcz15_4, hcz15_5, hcz15_6, hcz15_7, hcz15_8, hcz15_9, hcz15_10, hcz15_11⟩, hfz15_0, hfz15_1, hfz15_2, hfz15_3, hfz15_4, hfz15_5, hfz15_6, hfz15_7, hfz15_8, hfz15_9, hfz15_10, hfz15_11⟩ := cells12 BK339.out
 go_wp2_with (first | ((with_reducible refine gate_callee (f := 126) rfl ?_); refine goesL_ (some 16) rfl rfl Try.func126 (by kernel_rfl) rfl #[.agg #[.int .i64 a0_0, .int .i64 a0_1, .int .i64 a0_2, .int .i64 a0_3, .int .i64 a0_4, .int .i64 a0_5, .int .i64 a0_6, .bool a0_7, .int .i64 a0_8, .bool a0_9, .slice A0_10 l0_10.length c0_10, .slice A0_11 l0_11.length c0_11]] rfl wT ?_; (with_reducible refine (impl_okSegment.calls k a0_0 a0_1 a0_2 a0_3 a0_4 a0_5 a0_6 a0_7 a0_8 a0_9 _ _ l0_10 _ _ l0_11 false _ ?side1 ?side2 ?side3 ?side4 A6.out).mono ?_); (case side1 => exact Kd.C_below HR0_10.out wB); (case side2 => exact HC0_10.out); (case side3 => exact Kd.C_below HR0_11.out wB); (case side4 => exact HC0_11.out); rintro e w16 ⟨rfl, hb⟩; refine ⟨_, rfl, ?_⟩; have n0_ := Aside0.mk (blk_below (Bh BK339) hb); have n1_ := Aside0.mk (below_step wB hb); clear BK339; clear HB; have BK339 := n0_; have HB := n1_; clear n0_ n1_; (try clear hb); (try clear hb2); (try clear hk); (try clear hi)))
 go_meet
 case rel => exact ⟨_, (true), (by first | rfl | (simp; done) | (simp [*]; done)), H', ⟨by first | omega | exact Nat.le_refl _⟩, ⟨Bh BK339⟩, ⟨wB⟩⟩
 }
 )
 case rest => (
 clear HC4
 try clear c1
 try clear p2
 try clear c6
 try clear c7
 try clear c9
 try clear c12
 try clear hcz11_0 hcz11_1 hcz11_10 hcz11_11 hcz11_2 hcz11_3 hcz11_4 hcz11_5 hcz11_6 hcz11_7 hcz11_8 hcz11_9 hfz11_0 hfz11_1 hfz11_10 hfz11_11 hfz11_2 hfz11_3 hfz11_4 hfz11_5 hfz11_6 hfz11_7 hfz11_8 hfz11_9
 try clear hcz13_0 hcz13_1 hcz13_10 hcz13_11 hcz13_2 hcz13_3 hcz13_4 hcz13_5 hcz13_6 hcz13_7 hcz13_8 hcz13_9 hfz13_0 hfz13_1 hfz13_10 hfz13_11 hfz13_2 hfz13_3 hfz13_4 hfz13_5 hfz13_6 hfz13_7 hfz13_8 hfz13_9
 try clear hcz15_0 hcz15_1 hcz15_10 hcz15_11 hcz15_2 hcz15_3 hcz15_4 hcz15_5 hcz15_6 hcz15_7 hcz15_8 hcz15_9 hfz15_0 hfz15_1 hfz15_10 hfz15_11 hfz15_2 hfz15_3 hfz15_4 hfz15_5 hfz15_6 hfz15_7 hfz15_8 hfz15_9
 obtain ⟨kq, x27_3, rfl, HA, HJ3, BK339, HB⟩ := hcut
 cases kq with
 | zero => exact absurd HA.out (by simp [impl_EncodeSegment.j0])
 | succ kj3 => {
 have H := HA.out
 clear HA
 simp only [impl_EncodeSegment.j0] at H
 by_cases c17 : x27_3 = true
 {
 subst c17
 have H1 : (some (([] : List Int), 1)) = some (r1, r2) := by rw [if_pos rfl] at H; exact H
 clear H
 have H := H1
 clear H1
 simp only [Option.some.injEq, Prod.mk.injEq] at H
 obtain ⟨rfl, rfl⟩ := H
 go_wp2
 go_ret2
 exact ⟨_, by first | rfl | (simp [errW_none, errW_some] <;> rfl) | (simp [*, errW_none, errW_some] <;> rfl), by first | exact Kd.R_nil _ _ _ _ _ | exact Kd.N_nil _ _ _ _ _ | exact Kd.V_nil _ _ _ _ _ | exact Kd.Q_nil _ _ _ _ _ | exact Kd.S_nil _ _ _ _ _, wB⟩
 }
 {
 replace c17 := Bool.eq_false_iff.mpr c17
 subst c17
 have H1 : (if a0_6 = 0 then (impl_EncodeSegment.j1 kj3 a1 a2 ([] : List Int) a0_0 a0_1 a0_2 a0_3 a0_4 a0_5 a0_6 a0_7 a0_8 a0_9 l0_10 l0_11) else ((some (([2, 4] : List Int) : List Int)).bind fun y343 => (if ([] : List Int).length + y343.length < 140737488355328 then ((impl_put.f kj3 (([] : List Int) ++ y343) 2 a0_6).bind fun t349 => (impl_EncodeSegment.j1 kj3 a1 a2 t349 a0_0 a0_1 a0_2 a0_3 a0_4 a0_5 a0_6 a0_7 a0_8 a0_9 l0_10 l0_11)) else (none)))) = some (r1, r2) := by rw [if_neg (show ¬ (false = true) by decide)] at H; exact H
 clear H
 have H := H1
 clear H1
 have HC18 := Aside0.mk H
 clear H
 obtain ⟨⟨hcz19_0, hcz19_1, hcz19_2, hcz19_3, hcz19_4, hcz19_5, hcz19_6, hcz19_7, hcz19_8, hcz19_9, hcz19_10, hcz19_11⟩, hfz19_0, hfz19_1, hfz19_2, hfz19_3, hfz19_4, hfz19_5, hfz19_6, hfz19_7, hfz19_8, hfz19_9, hfz19_10, hfz19_11⟩ := cells12 BK339.out
 go_upto_if 30 with (fail)
 go_cut [8] (fun v8 wc => ∃ (kq : Nat) (x8_17 : List Int), Aside0 (impl_EncodeSegment.j1 kq a1 a2 x8_17 a0_0 a0_1 a0_2 a0_3 a0_4 a0_5 a0_6 a0_7 a0_8 a0_9 l0_10 l0_11 = some (r1, r2)) ∧ Aside0 (kq ≤ kj3) ∧ Aside0 (Kd.R (Kd.int .u8) 5 wc w.heap.size (fun _ => True) v8 x8_17) ∧ Aside0 (wc.heap[gb339]? = some (.cells #[.int .i64 a0_0, .int .i64 a0_1, .int .i64 a0_2, .int .i64 a0_3, .int .i64 a0_4, .int .i64 a0_5, .int .i64 a0_6, .bool a0_7, .int .i64 a0_8, .bool a0_9, (.slice A0_10 l0_10.length c0_10), (.slice A0_11 l0_11.length c0_11)] 51 (0, 0))) ∧ Aside0 (Below w.heap.size w wc))
 case first => (
 have H := HC18.out
 clear HC18
 by_cases c20 : a0_6 = 0
 {
 rw [if_pos c20] at H
 have c20b0 : (a0_6 == 0) = true := beq_iff_eq.mpr c20
 have c20b1 : (a0_6 != 0) = false := bne_eq_false_iff_eq.mpr c20
 clear c20
 (first | rw [c20b0] | (simp only [i64_w, i32_w]; rw [c20b0]) | skip)
 have H' := Aside0.mk H
 clear H
 go_wp2
 go_meet
 case rel => exact ⟨_, (([] : List Int)), H', ⟨by have := HJ3.out; first | omega | exact Nat.le_refl _⟩, ⟨by first | exact Kd.R_nil _ _ _ _ _ | exact Kd.N_nil _ _ _ _ _ | exact Kd.V_nil _ _ _ _ _ | exact Kd.Q_nil _ _ _ _ _ | exact Kd.S_nil _ _ _ _ _⟩, ⟨Bh BK339⟩, ⟨wB⟩⟩
 }
 {
 rw [if_neg c20] at H
 have c20b0 : (a0_6 == 0) = false := beq_eq_false_iff_ne.mpr c20
 have c20b1 : (a0_6 != 0) = true := bne_iff_ne.mpr c20
 (first | rw [c20b0] | (simp only [i64_w, i32_w]; rw [c20b0]) | skip)
 obtain ⟨y343, hy343⟩ : ∃ y_ : List Int, y_ = (([2, 4] : List Int)) := ⟨_, rfl⟩
 replace H : (if ([] : List Int).length + y343.length < 140737488355328 then ((impl_put.f kj3 (([] : List Int) ++ y343) 2 a0_6).bind fun t349 => (impl_EncodeSegment.j1 kj3 a1 a2 t349 a0_0 a0_1 a0_2 a0_3 a0_4 a0_5 a0_6 a0_7 a0_8 a0_9 l0_10 l0_11)) else (none)) = some (r1, r2) := by first | (rw [hy343]; with_reducible exact H) | (have H2_ := (Option.bind_some _ _).symm.trans H; rw [hy343]; with_reducible exact H2_) | (have H2_ := (Option.bind_some _ _).symm.trans H; with_reducible exact H2_) | with_reducible exact H | (rw [hy343]; exact H) | exact H
 have Ny343 := Aside0.mk hy343
 clear hy343
 by_cases c21 : ([] : List Int).length + y343.length < 140737488355328
 {
 rw [if_pos c21] at H
 have LMc21 := Aside0.mk c21
 clear c21
 obtain ⟨y346, hy346⟩ : ∃ y_ : List Int, y_ = (([] : List Int) ++ y343) := ⟨_, rfl⟩
 replace H : ((impl_put.f kj3 y346 2 a0_6).bind fun t349 => (impl_EncodeSegment.j1 kj3 a1 a2 t349 a0_0 a0_1 a0_2 a0_3 a0_4 a0_5 a0_6 a0_7 a0_8 a0_9 l0_10 l0_11)) = some (r1, r2) := by first | (rw [hy346]; with_reducible exact H) | (have H2_ := (Option.bind_some _ _).symm.trans H; rw [hy346]; with_reducible exact H2_) | (have H2_ := (Option.bind_some _ _).symm.trans H; with_reducible exact H2_) | with_reducible exact H | (rw [hy346]; exact H) | exact H
 have Ny346 := Aside0.mk hy346
 clear hy346
 replace H := Option.bind_eq_some_iff.mp H
 obtain ⟨t349, A220, H⟩ := H
 replace H : (impl_EncodeSegment.j1 kj3 a1 a2 t349 a0_0 a0_1 a0_2 a0_3 a0_4 a0_5 a0_6 a0_7 a0_8 a0_9 l0_10 l0_11) = some (r1, r2) := H
 have A22 := Aside0.mk A220
 clear A220
 have H' := Aside0.mk H
 clear H
 try go_wp2
 have n0_ := Aside0.mk (blk_drew BK339.out)
 have n1_ := Aside0.mk (below_drew1 HB.out)
 clear BK339
 clear HB
 have BK339 := n0_
 have HB := n1_
 clear n0_ n1_
 refine start_ (n := 7) (S := fun w' => w'.cell? ⟨gb339, 0, none⟩ = some (.int .i64 a0_0) ∧ w'.cell? ⟨gb339, 1, none⟩ = some (.int .i64 a0_1) ∧ w'.cell? ⟨gb339, 2, none⟩ = some (.int .i64 a0_2) ∧ w'.cell? ⟨gb339, 3, none⟩ = some (.int .i64 a0_3) ∧ w'.cell? ⟨gb339, 4, none⟩ = some (.int .i64 a0_4) ∧ w'.cell? ⟨gb339, 5, none⟩ = some (.int .i64 a0_5) ∧ w'.cell? ⟨gb339, 6, none⟩ = some (.int .i64 a0_6) ∧ w'.cell? ⟨gb339, 7, none⟩ = some (.bool a0_7) ∧ w'.cell? ⟨gb339, 8, none⟩ = some (.int .i64 a0_8) ∧ w'.cell? ⟨gb339, 9, none⟩ = some (.bool a0_9) ∧ w'.cell? ⟨gb339, 10, none⟩ = some (.slice A0_10 l0_10.length c0_10) ∧ w'.cell? ⟨gb339, 11, none⟩ = some (.slice A0_11 l0_11.length c0_11)) (ds := []) #[false, false, false, false, false, false, false] (by kernel_rfl) rfl rfl ⟨(blk_cell BK339.out 0).trans rfl, (blk_cell BK339.out 1).trans rfl, (blk_cell BK339.out 2).trans rfl, (blk_cell BK339.out 3).trans rfl, (blk_cell BK339.out 4).trans rfl, (blk_cell BK339.out 5).trans rfl, (blk_cell BK339.out 6).trans rfl, (blk_cell BK339.out 7).trans rfl, (blk_cell BK339.out 8).trans rfl, (blk_cell BK339.out 9).trans rfl, (blk_cell BK339.out 10).trans rfl, (blk_cell BK339.out 11).trans rfl⟩ (fun hHeld => ?_)
 generalize wc.drew = w23 at BK339 HB hHeld ⊢
 refine pure_ (i := 0) (N := some 31) (v := ?_) (a' := ?_) #[true, false, false, false, false, false, false] rfl rfl (by kernel_rfl) (fun _ _ _ h => h) (Or.inl ⟨by rfl, ?_⟩) ?_ ?_
 rotate_left
 {
 intro w'
 go_simp
 with_reducible rfl
 }
 rotate_left
 {
 simp only [Act.put, List.setIfInBounds_toArray, List.set_cons_zero, List.set_cons_succ, i64_w, i32_w]
 rfl
 }
 refine pure_ (i := 3) (N := some 34) (v := ?_) (a' := ?_) #[true, false, false, true, false, false, false] rfl rfl (by kernel_rfl) (fun _ _ _ h => h) (Or.inl ⟨by rfl, ?_⟩) ?_ ?_
 rotate_left
 {
 intro w'
 go_simp
 with_reducible rfl
 }
 rotate_left
 {
 simp only [Act.put, List.setIfInBounds_toArray, List.set_cons_zero, List.set_cons_succ, i64_w, i32_w]
 rfl
 }
 refine take_ (i := 4) (N := some 35) (v := ?_) (a' := ?_) #[true, false, false, true, true, false, false] rfl rfl (by kernel_rfl) (fun _ _ _ h => h) (Or.inl ⟨by rfl, ?_⟩) hHeld ?_ ?_
 rotate_left
 {
 rintro w' ⟨s0, s1, s2, s3, s4, s5, s6, s7, s8, s9, s10, s11⟩
 go_simp
 with_reducible rfl
 }
 rotate_left
 {
 simp only [Act.put, List.setIfInBounds_toArray, List.set_cons_zero, List.set_cons_succ, i64_w, i32_w]
 rfl
 }
 refine one_ (i := 1) (N := some 32) #[true, true, false, true, true, false, false] rfl rfl (by kernel_rfl) (by decide) (fun K hK => ?_)
 refine Kd.R_lit_step (Kd.int .u8) _ 5 ?hg (N := 32) ?hd (xs := ([2, 4] : List Int)) (inner := [.int .u8 2, .int .u8 4]) (ok := fun _ => True) (okp := fun _ => True) ?hr ?hp (fun _ hk => hk) trivial (Below.refl _ _) (Nat.le_refl _) (by simp) ?_; (case hd => rfl); (case hg => rfl); (case hr => first | (go_simp; done) | (go_simp; rfl)); (case hp => exact (Reps.one (show Kd.M (Kd.int .u8) _ _ _ 2 [.int .u8 2] from rfl) (Reps.one (show Kd.M (Kd.int .u8) _ _ _ 4 [.int .u8 4] from rfl) (Reps.none _ _))))
 intro v344 w24 ho25 hb hg_ hnew_
 clear hg_ hnew_
 (first | rw [← Ny343.out] at ho25 | (simp only [Int.reduceToNat] at ho25; rw [← Ny343.out] at ho25))
 have n0_ := Aside0.mk (Kd.R_lower ho25 (below_size wB))
 have n1_ := Aside0.mk (blk_below (Bh BK339) hb)
 have n2_ := Aside0.mk (below_step wB hb)
 clear BK339
 clear HB
 have HO345 := n0_
 have BK339 := n1_
 have HB := n2_
 clear n0_ n1_ n2_
 clear hb ho25
 obtain ⟨Ao27, co27, eo27⟩ := Kd.R_slice HO345.out
 (first | subst eo27 | (injection eo27 with f1_ f2_ f3_; have f4_ := f1_.symm; have f5_ := f3_.symm; clear f1_ f2_ f3_; subst f4_; subst f5_))
 refine hK.out _ _ ⟨(blk_cell BK339.out 0).trans rfl, (blk_cell BK339.out 1).trans rfl, (blk_cell BK339.out 2).trans rfl, (blk_cell BK339.out 3).trans rfl, (blk_cell BK339.out 4).trans rfl, (blk_cell BK339.out 5).trans rfl, (blk_cell BK339.out 6).trans rfl, (blk_cell BK339.out 7).trans rfl, (blk_cell BK339.out 8).trans rfl, (blk_cell BK339.out 9).trans rfl, (blk_cell BK339.out 10).trans rfl, (blk_cell BK339.out 11).trans rfl⟩ (fun hHeld => ?_)
 clear hK K
 refine norm_ (a' := ?_) ?_ ?_
 rotate_left
 {
 show Act.put _ (some 32) _ = _
 simp only [Act.put, List.setIfInBounds_toArray, List.set_cons_zero, List.set_cons_succ, i64_w, i32_w]
 rfl
 }
 refine one_ (i := 2) (N := some 33) #[true, true, true, true, true, false, false] rfl rfl (by kernel_rfl) (by decide) (fun K hK => ?_)
 refine Kd.R_append_rows_step (Kd.int .u8) (w0 := w) w.heap.size (by rfl) (.tmp 31) (.tmp 32) 22 5 (.int .u8 0) 1 rfl Try.underlying22 info5 rfl (by decide) (by omega) (.slice none 0 0) ([] : List Int) y343 _ _ _ (fun k_ => some k_ ≠ (.slice Ao27 y343.length co27 : Value).ownBlock) (fun _ => False) rfl rfl ?aO ?aR (fun _ _ h => h) (fun _ h => h.elim) ?aF ?aB ?aS ?aL ?_
 (case aR => exact Ch HO345)
 (case aB => exact wB)
 (case aF => exact (fun k_ hk => Kd.fresh' (Kd.R_lt (Rh HO345)) k_ hk))
 (case aO => exact ((Kd.R_nil _ _ _ _ (fun k_ => some k_ ≠ (.slice Ao27 y343.length co27 : Value).ownBlock))))
 (case aS => exact (below_size wB))
 (case aL => have := LMc21.out; omega)
 intro v347 w26 ho hb hg hat
 rw [← Ny346.out] at ho
 have n0_ := Aside0.mk (blk_grown (Bh BK339) hg (by simp [Value.ownBlock]))
 have n1_ := Aside0.mk (Kd.R_after (Kd.R_apart_nil (Rh HO345)) hg hat)
 have n2_ := Aside0.mk (hb)
 have n3_ := Aside0.mk (ho)
 clear BK339
 clear HO345
 clear HB
 have BK339 := n0_
 have HO345 := n1_
 have HB := n2_
 have HO348 := n3_
 clear n0_ n1_ n2_ n3_
 clear ho hb hg hat
 obtain ⟨Ao28, co28, eo28⟩ := Kd.R_slice HO348.out
 (first | subst eo28 | (injection eo28 with f1_ f2_ f3_; have f4_ := f1_.symm; have f5_ := f3_.symm; clear f1_ f2_ f3_; subst f4_; subst f5_))
 refine hK.out _ _ ⟨(blk_cell BK339.out 0).trans rfl, (blk_cell BK339.out 1).trans rfl, (blk_cell BK339.out 2).trans rfl, (blk_cell BK339.out 3).trans rfl, (blk_cell BK339.out 4).trans rfl, (blk_cell BK339.out 5).trans rfl, (blk_cell BK339.out 6).trans rfl, (blk_cell BK339.out 7).trans rfl, (blk_cell BK339.out 8).trans rfl, (blk_cell BK339.out 9).trans rfl, (blk_cell BK339.out 10).trans rfl, (blk_cell BK339.out 11).trans rfl⟩ (fun hHeld => ?_)
 clear hK K
 refine norm_ (a' := ?_) ?_ ?_
 rotate_left
 {
 show Act.put _ (some 33) _ = _
 simp only [Act.put, List.setIfInBounds_toArray, List.set_cons_zero, List.set_cons_succ, i64_w, i32_w]
 rfl
 }
 refine one_ (i := 5) (N := some 36) #[true, true, true, true, true, true, false] rfl rfl (by kernel_rfl) (by decide) (fun K hK => ?_)
 refine goes_ Try.func127 (by kernel_rfl) rfl #[.slice Ao28 y346.length co28, .int .i64 2, .int .i64 a0_6] (by rfl) rfl rfl wT ?_
 with_reducible refine (impl_put.calls kj3 (fun k_ => some k_ = (.slice Ao28 y346.length co28 : Value).ownBlock) (.slice Ao28 y346.length co28) y346 2 a0_6 t349 w _ ?side1 ?side2 A22.out).mono ?_
 (case side1 => repeat (first | (with_reducible first | exact HB.out | apply below_alloc | apply pw_below_drewN | apply below_drew1 | refine below_set ?_ GE339.out) | exact HB.out))
 (case side2 => exact Kd.R_tight rfl HO348.out)
 rintro e w29 ⟨v350, rfl, ho0, hb, hkp⟩
 refine ⟨_, rfl, ?_⟩
 have n0_ := Aside0.mk (blk_kept (Bh BK339) hkp (fun hs_ => (fun e_ => (Kd.R_ne HO348.out BK339.out (by decide)) e_) hs_))
 have n1_ := Aside0.mk (Kd.R_mono (ok' := fun k_ => some k_ ≠ (v350 : Value).ownBlock) (Kd.R_keptB (HO345.out) hkp (fun k_ hk_ hs_ => (hk_.2) hs_)) (fun k_ hk_ => fun e_ => Or.elim (ho0.1 k_ e_.symm) (fun hs_ => hk_.2.1 hs_) (fun hn_ => Nat.not_le.2 hk_.2.2 hn_)))
 have n2_ := Aside0.mk (Kd.R_mono (ok' := fun k_ => some k_ ≠ (.slice Ao27 y343.length co27 : Value).ownBlock) ho0 (fun k_ hk_ => Or.elim hk_ (fun hs_ => fun e_ => (((HO345.out).1 k_ e_.symm).2) hs_) (fun hn_ => (Kd.fresh' (Kd.R_lt (Rh HO345)) k_ hn_))))
 have n3_ := Aside0.mk (hb)
 clear BK339
 clear HO345
 clear HB
 clear HO348
 have BK339 := n0_
 have HO345 := n1_
 have HO351 := n2_
 have HB := n3_
 clear n0_ n1_ n2_ n3_
 (try clear hb)
 (try clear hkp)
 (try clear ho0)
 refine hK.out _ _ ⟨(blk_cell BK339.out 0).trans rfl, (blk_cell BK339.out 1).trans rfl, (blk_cell BK339.out 2).trans rfl, (blk_cell BK339.out 3).trans rfl, (blk_cell BK339.out 4).trans rfl, (blk_cell BK339.out 5).trans rfl, (blk_cell BK339.out 6).trans rfl, (blk_cell BK339.out 7).trans rfl, (blk_cell BK339.out 8).trans rfl, (blk_cell BK339.out 9).trans rfl, (blk_cell BK339.out 10).trans rfl, (blk_cell BK339.out 11).trans rfl⟩ (fun hHeld => ?_)
 clear hK K
 refine norm_ (a' := ?_) ?_ ?_
 rotate_left
 {
 show Act.put _ (some 36) _ = _
 simp only [Act.put, List.setIfInBounds_toArray, List.set_cons_zero, List.set_cons_succ, i64_w, i32_w]
 rfl
 }
 refine pure_ (i := 6) (N := some 8) (v := ?_) (a' := ?_) #[true, true, true, true, true, true, true] rfl rfl (by kernel_rfl) (fun _ _ _ h => h) (Or.inl ⟨by rfl, ?_⟩) ?_ ?_
 rotate_left
 {
 intro w'
 go_simp
 with_reducible rfl
 }
 rotate_left
 {
 simp only [Act.put, List.setIfInBounds_toArray, List.set_cons_zero, List.set_cons_succ, i64_w, i32_w]
 rfl
 }
 refine done_ (by kernel_rfl) ?_
 try go_wp2
 go_meet
 case rel => exact ⟨_, (t349), H', ⟨by have := HJ3.out; first | omega | exact Nat.le_refl _⟩, ⟨Kd.R_mono (Rh HO351) (fun _ hk => trivial)⟩, ⟨Bh BK339⟩, ⟨wB⟩⟩
 }
 {
 rw [if_neg c21] at H
 exact absurd H (by simp)
 }
 }
 )
 case rest => (
 clear HC18
 try clear c1
 try clear c2
 try clear p2
 try clear c6
 try clear c7
 try clear c9
 try clear c12
 try clear c17
 try clear c20
 try clear c20b0
 try clear c20b1
 try clear c21
 try clear hcz11_0 hcz11_1 hcz11_10 hcz11_11 hcz11_2 hcz11_3 hcz11_4 hcz11_5 hcz11_6 hcz11_7 hcz11_8 hcz11_9 hfz11_0 hfz11_1 hfz11_10 hfz11_11 hfz11_2 hfz11_3 hfz11_4 hfz11_5 hfz11_6 hfz11_7 hfz11_8 hfz11_9
 try clear hcz13_0 hcz13_1 hcz13_10 hcz13_11 hcz13_2 hcz13_3 hcz13_4 hcz13_5 hcz13_6 hcz13_7 hcz13_8 hcz13_9 hfz13_0 hfz13_1 hfz13_10 hfz13_11 hfz13_2 hfz13_3 hfz13_4 hfz13_5 hfz13_6 hfz13_7 hfz13_8 hfz13_9
 try clear hcz15_0 hcz15_1 hcz15_10 hcz15_11 hcz15_2 hcz15_3 hcz15_4 hcz15_5 hcz15_6 hcz15_7 hcz15_8 hcz15_9 hfz15_0 hfz15_1 hfz15_10 hfz15_11 hfz15_2 hfz15_3 hfz15_4 hfz15_5 hfz15_6 hfz15_7 hfz15_8 hfz15_9
 try clear hcz19_0 hcz19_1 hcz19_10 hcz19_11 hcz19_2 hcz19_3 hcz19_4 hcz19_5 hcz19_6 hcz19_7 hcz19_8 hcz19_9 hfz19_0 hfz19_1 hfz19_10 hfz19_11 hfz19_2 hfz19_3 hfz19_4 hfz19_5 hfz19_6 hfz19_7 hfz19_8 hfz19_9
 try clear p2
 obtain ⟨kq, x8_17, HA, HJ17, HO_8, BK339, HB⟩ := hcut
 cases kq with
 | zero => exact absurd HA.out (by simp [impl_EncodeSegment.j1])
 | succ kj17 => {
 have H := HA.out
 clear HA
 simp only [impl_EncodeSegment.j1] at H
 have HC30 := Aside0.mk H
 clear H
 obtain ⟨⟨hcz31_0, hcz31_1, hcz31_2, hcz31_3, hcz31_4, hcz31_5, hcz31_6, hcz31_7, hcz31_8, hcz31_9, hcz31_10, hcz31_11⟩, hfz31_0, hfz31_1, hfz31_2, hfz31_3, hfz31_4, hfz31_5, hfz31_6, hfz31_7, hfz31_8, hfz31_9, hfz31_10, hfz31_11⟩ := cells12 BK339.out
 go_upto_if 38 with (fail)
 go_cut [8] (fun v8 wc => ∃ (kq : Nat) (x8_29 : List Int), Aside0 (impl_EncodeSegment.j2 kq a1 a2 x8_29 a0_0 a0_1 a0_2 a0_3 a0_4 a0_5 a0_6 a0_7 a0_8 a0_9 l0_10 l0_11 = some (r1, r2)) ∧ Aside0 (kq ≤ kj17) ∧ Aside0 (Kd.R (Kd.int .u8) 5 wc w.heap.size (fun _ => True) v8 x8_29) ∧ Aside0 (wc.heap[gb339]? = some (.cells #[.int .i64 a0_0, .int .i64 a0_1, .int .i64 a0_2, .int .i64 a0_3, .int .i64 a0_4, .int .i64 a0_5, .int .i64 a0_6, .bool a0_7, .int .i64 a0_8, .bool a0_9, (.slice A0_10 l0_10.length c0_10), (.slice A0_11 l0_11.length c0_11)] 51 (0, 0))) ∧ Aside0 (Below w.heap.size w wc))
 case first => (
 have H := HC30.out
 clear HC30
 by_cases c32 : a0_7 = true
 {
 subst c32
 have H1 : ((some (([1, 3, 3, (a0_8) % 256] : List Int) : List Int)).bind fun y352 => (if x8_17.length + y352.length < 140737488355328 then (impl_EncodeSegment.j2 kj17 a1 a2 (x8_17 ++ y352) a0_0 a0_1 a0_2 a0_3 a0_4 a0_5 a0_6 true a0_8 a0_9 l0_10 l0_11) else (none))) = some (r1, r2) := by rw [if_pos rfl] at H; exact H
 clear H
 have H := H1
 clear H1
 obtain ⟨y352, hy352⟩ : ∃ y_ : List Int, y_ = (([1, 3, 3, (a0_8) % 256] : List Int)) := ⟨_, rfl⟩
 replace H : (if x8_17.length + y352.length < 140737488355328 then (impl_EncodeSegment.j2 kj17 a1 a2 (x8_17 ++ y352) a0_0 a0_1 a0_2 a0_3 a0_4 a0_5 a0_6 true a0_8 a0_9 l0_10 l0_11) else (none)) = some (r1, r2) := by first | (rw [hy352]; with_reducible exact H) | (have H2_ := (Option.bind_some _ _).symm.trans H; rw [hy352]; with_reducible exact H2_) | (have H2_ := (Option.bind_some _ _).symm.trans H; with_reducible exact H2_) | with_reducible exact H | (rw [hy352]; exact H) | exact H
 have Ny352 := Aside0.mk hy352
 clear hy352
 by_cases c33 : x8_17.length + y352.length < 140737488355328
 {
 rw [if_pos c33] at H
 have LMc33 := Aside0.mk c33
 clear c33
 obtain ⟨y355, hy355⟩ : ∃ y_ : List Int, y_ = (x8_17 ++ y352) := ⟨_, rfl⟩
 replace H : (impl_EncodeSegment.j2 kj17 a1 a2 y355 a0_0 a0_1 a0_2 a0_3 a0_4 a0_5 a0_6 true a0_8 a0_9 l0_10 l0_11) = some (r1, r2) := by first | (rw [hy355]; with_reducible exact H) | (have H2_ := (Option.bind_some _ _).symm.trans H; rw [hy355]; with_reducible exact H2_) | (have H2_ := (Option.bind_some _ _).symm.trans H; with_reducible exact H2_) | with_reducible exact H | (rw [hy355]; exact H) | exact H
 have Ny355 := Aside0.mk hy355
 clear hy355
 have H' := Aside0.mk H
 clear H
 obtain ⟨⟨hcz34_0, hcz34_1, hcz34_2, hcz34_3, hcz34_4, hcz34_5, hcz34_6, hcz34_7, hcz34_8, hcz34_9, hcz34_10, hcz34_11⟩, hfz34_0, hfz34_1, hfz34_2, hfz34_3, hfz34_4, hfz34_5, hfz34_6, hfz34_7, hfz34_8, hfz34_9, hfz34_10, hfz34_11⟩ := cells12 BK339.out
 go_wp2_with (first | ((with_reducible refine gate_dst (N := 43) rfl ?_); refine Kd.R_lit (Kd.int .u8) _ 5 ?hg (N := 43) ?hd (xs := ([1, 3, 3, (a0_8) % 256] : List Int)) (inner := [.int .u8 1, .int .u8 3, .int .u8 3, .int .u8 ((a0_8) % 256)]) (ok := fun _ => True) (okp := fun _ => True) ?hr ?hp (fun _ hk => hk) trivial (Below.refl _ _) (Nat.le_refl _) (by simp) ?_; (case hd => rfl); (case hg => rfl); (case hr => first | (go_simp; done) | (go_simp; rfl)); (case hp => exact (Reps.one (show Kd.M (Kd.int .u8) _ _ _ 1 [.int .u8 1] from rfl) (Reps.one (show Kd.M (Kd.int .u8) _ _ _ 3 [.int .u8 3] from rfl) (Reps.one (show Kd.M (Kd.int .u8) _ _ _ 3 [.int .u8 3] from rfl) (Reps.one (show Kd.M (Kd.int .u8) _ _ _ ((a0_8) % 256) [.int .u8 ((a0_8) % 256)] from rfl) (Reps.none _ _)))))); intro v353 w35 ho36 hb hg_ hnew_; clear hg_ hnew_; (first | rw [← Ny352.out] at ho36 | (simp only [Int.reduceToNat] at ho36; rw [← Ny352.out] at ho36)); have n0_ := Aside0.mk (Kd.R_elder' (Rh HO_8) (Kd.R_base ho36) hb); have n1_ := Aside0.mk (Kd.R_lower (Kd.R_new' ho36 (Kd.R_lt (Rh HO_8))) (below_size wB)); have n2_ := Aside0.mk (blk_below (Bh BK339) hb); have n3_ := Aside0.mk (below_step wB hb); clear HO_8; clear BK339; clear HB; have HO_8 := n0_; have HO354 := n1_; have BK339 := n2_; have HB := n3_; clear n0_ n1_ n2_ n3_; clear hb ho36; obtain ⟨Ao38, co38, eo38⟩ := Kd.R_slice HO354.out; subst eo38) | ((with_reducible refine gate_builtin (b := .append) (xs := #[.tmp 39, .tmp 43]) rfl ?_); at_builtin; refine Kd.R_append_rows (Kd.int .u8) (w0 := w) w.heap.size rfl (.tmp 39) (.tmp 43) 22 5 (.int .u8 0) 1 rfl Try.underlying22 info5 rfl (by decide) (by omega) u8 x8_17 y352 _ _ _ (fun k_ => some k_ ≠ (.slice Ao38 y352.length co38 : Value).ownBlock) (fun _ => False) rfl rfl ?aO ?aR (fun _ _ h => h) (fun _ h => h.elim) ?aF ?aB ?aS ?aL ?_; (case aR => exact Ch HO354); (case aB => exact wB); (case aF => exact (fun k_ hk => Kd.fresh' (Kd.R_lt (Rh HO354)) k_ hk)); (case aO => exact (Kd.R_mono (Rh HO_8) (fun _ hk => hk.2))); (case aS => exact (below_size wB)); (case aL => have := LMc33.out; omega); intro v356 w37 ho hb hg hat; rw [← Ny355.out] at ho; have n0_ := Aside0.mk (blk_grown (Bh BK339) hg (Kd.R_ne HO_8.out BK339.out (by decide))); have n1_ := Aside0.mk (Kd.R_after (ok := (fun _ => True)) (Rh HO354) hg hat); have n2_ := Aside0.mk (hb); have n3_ := Aside0.mk (ho); clear BK339; clear HO354; clear HB; clear HO_8; have BK339 := n0_; have HO354 := n1_; have HB := n2_; have HO357 := n3_; clear n0_ n1_ n2_ n3_; clear ho hb hg hat))
 go_meet
 case rel => exact ⟨_, (y355), H', ⟨by have := HJ3.out; have := HJ17.out; first | omega | exact Nat.le_refl _⟩, ⟨Kd.R_mono (Rh HO357) (fun _ hk => trivial)⟩, ⟨Bh BK339⟩, ⟨wB⟩⟩
 }
 {
 rw [if_neg c33] at H
 exact absurd H (by simp)
 }
 }
 {
 replace c32 := Bool.eq_false_iff.mpr c32
 subst c32
 have H1 : (impl_EncodeSegment.j2 kj17 a1 a2 x8_17 a0_0 a0_1 a0_2 a0_3 a0_4 a0_5 a0_6 false a0_8 a0_9 l0_10 l0_11) = some (r1, r2) := by rw [if_neg (show ¬ (false = true) by decide)] at H; exact H
 clear H
 have H := H1
 clear H1
 have H' := Aside0.mk H
 clear H
 go_wp2
 go_meet
 case rel => exact ⟨_, (x8_17), H', ⟨by have := HJ3.out; have := HJ17.out; first | omega | exact Nat.le_refl _⟩, ⟨Rh HO_8⟩, ⟨Bh BK339⟩, ⟨wB⟩⟩
 }
 )
 case rest => (
 clear HC30
 try clear c1
 try clear c2
 try clear p2
 try clear c3
 try clear c6
 try clear c7
 try clear c9
 try clear c12
 try clear c17
 try clear c20
 try clear c20b0
 try clear c20b1
 try clear c21
 try clear c32
 try clear c33
 try clear hcz11_0 hcz11_1 hcz11_10 hcz11_11 hcz11_2 hcz11_3 hcz11_4 hcz11_5 hcz11_6 hcz11_7 hcz11_8 hcz11_9 hfz11_0 hfz11_1 hfz11_10 hfz11_11 hfz11_2 hfz11_3 hfz11_4 hfz11_5 hfz11_6 hfz11_7 hfz11_8 hfz11_9
 try clear hcz13_0 hcz13_1 hcz13_10 hcz13_11 hcz13_2 hcz13_3 hcz13_4 hcz13_5 hcz13_6 hcz13_7 hcz13_8 hcz13_9 hfz13_0 hfz13_1 hfz13_10 hfz13_11 hfz13_2 hfz13_3 hfz13_4 hfz13_5 hfz13_6 hfz13_7 hfz13_8 hfz13_9
 try clear hcz15_0 hcz15_1 hcz15_10 hcz15_11 hcz15_2 hcz15_3 hcz15_4 hcz15_5 hcz15_6 hcz15_7 hcz15_8 hcz15_9 hfz15_0 hfz15_1 hfz15_10 hfz15_11 hfz15_2 hfz15_3 hfz15_4 hfz15_5 hfz15_6 hfz15_7 hfz15_8 hfz15_9
 try clear hcz19_0 hcz19_1 hcz19_10 hcz19_11 hcz19_2 hcz19_3 hcz19_4 hcz19_5 hcz19_6 hcz19_7 hcz19_8 hcz19_9 hfz19_0 hfz19_1 hfz19_10 hfz19_11 hfz19_2 hfz19_3 hfz19_4 hfz19_5 hfz19_6 hfz19_7 hfz19_8 hfz19_9
 try clear hcz31_0 hcz31_1 hcz31_10 hcz31_11 hcz31_2 hcz31_3 hcz31_4 hcz31_5 hcz31_6 hcz31_7 hcz31_8 hcz31_9 hfz31_0 hfz31_1 hfz31_10 hfz31_11 hfz31_2 hfz31_3 hfz31_4 hfz31_5 hfz31_6 hfz31_7 hfz31_8 hfz31_9
 try clear hcz34_0 hcz34_1 hcz34_10 hcz34_11 hcz34_2 hcz34_3 hcz34_4 hcz34_5 hcz34_6 hcz34_7 hcz34_8 hcz34_9 hfz34_0 hfz34_1 hfz34_10 hfz34_11 hfz34_2 hfz34_3 hfz34_4 hfz34_5 hfz34_6 hfz34_7 hfz34_8 hfz34_9
 try clear p2
 obtain ⟨kq, x8_29, HA, HJ29, HO_8, BK339, HB⟩ := hcut
 cases kq with
 | zero => exact absurd HA.out (by simp [impl_EncodeSegment.j2])
 | succ kj29 => {
 have H := HA.out
 clear HA
 simp only [impl_EncodeSegment.j2] at H
 have HC39 := Aside0.mk H
 clear H
 obtain ⟨⟨hcz40_0, hcz40_1, hcz40_2, hcz40_3, hcz40_4, hcz40_5, hcz40_6, hcz40_7, hcz40_8, hcz40_9, hcz40_10, hcz40_11⟩, hfz40_0, hfz40_1, hfz40_2, hfz40_3, hfz40_4, hfz40_5, hfz40_6, hfz40_7, hfz40_8, hfz40_9, hfz40_10, hfz40_11⟩ := cells12 BK339.out
 go_upto_if 46 with (fail)
 go_cut [8] (fun v8 wc => ∃ (kq : Nat) (x8_38 : List Int), Aside0 (impl_EncodeSegment.j3 kq a1 a2 x8_38 a0_0 a0_1 a0_2 a0_3 a0_4 a0_5 a0_6 a0_7 a0_8 a0_9 l0_10 l0_11 = some (r1, r2)) ∧ Aside0 (kq ≤ kj29) ∧ Aside0 (Kd.R (Kd.int .u8) 5 wc w.heap.size (fun _ => True) v8 x8_38) ∧ Aside0 (wc.heap[gb339]? = some (.cells #[.int .i64 a0_0, .int .i64 a0_1, .int .i64 a0_2, .int .i64 a0_3, .int .i64 a0_4, .int .i64 a0_5, .int .i64 a0_6, .bool a0_7, .int .i64 a0_8, .bool a0_9, (.slice A0_10 l0_10.length c0_10), (.slice A0_11 l0_11.length c0_11)] 51 (0, 0))) ∧ Aside0 (Below w.heap.size w wc))
 case first => (
 have H := HC39.out
 clear HC39
 by_cases c41 : a0_9 = true
 {
 subst c41
 have H1 : ((some (([1, 1, 4, 2] : List Int) : List Int)).bind fun y358 => (if x8_29.length + y358.length < 140737488355328 then (impl_EncodeSegment.j3 kj29 a1 a2 (x8_29 ++ y358) a0_0 a0_1 a0_2 a0_3 a0_4 a0_5 a0_6 a0_7 a0_8 true l0_10 l0_11) else (none))) = some (r1, r2) := by rw [if_pos rfl] at H; exact H
 clear H
 have H := H1
 clear H1
 obtain ⟨y358, hy358⟩ : ∃ y_ : List Int, y_ = (([1, 1, 4, 2] : List Int)) := ⟨_, rfl⟩
 replace H : (if x8_29.length + y358.length < 140737488355328 then (impl_EncodeSegment.j3 kj29 a1 a2 (x8_29 ++ y358) a0_0 a0_1 a0_2 a0_3 a0_4 a0_5 a0_6 a0_7 a0_8 true l0_10 l0_11) else (none)) = some (r1, r2) := by first | (rw [hy358]; with_reducible exact H) | (have H2_ := (Option.bind_some _ _).symm.trans H; rw [hy358]; with_reducible exact H2_) | (have H2_ := (Option.bind_some _ _).symm.trans H; with_reducible exact H2_) | with_reducible exact H | (rw [hy358]; exact H) | exact H
 have Ny358 := Aside0.mk hy358
 clear hy358
 by_cases c42 : x8_29.length + y358.length < 140737488355328
 {
 rw [if_pos c42] at H
 have LMc42 := Aside0.mk c42
 clear c42
 obtain ⟨y361, hy361⟩ : ∃ y_ : List Int, y_ = (x8_29 ++ y358) := ⟨_, rfl⟩
 replace H : (impl_EncodeSegment.j3 kj29 a1 a2 y361 a0_0 a0_1 a0_2 a0_3 a0_4 a0_5 a0_6 a0_7 a0_8 true l0_10 l0_11) = some (r1, r2) := by first | (rw [hy361]; with_reducible exact H) | (have H2_ := (Option.bind_some _ _).symm.trans H; rw [hy361]; with_reducible exact H2_) | (have H2_ := (Option.bind_some _ _).symm.trans H; with_reducible exact H2_) | with_reducible exact H | (rw [hy361]; exact H) | exact H
 have Ny361 := Aside0.mk hy361
 clear hy361
 have H' := Aside0.mk H
 clear H
 go_wp2_with (first | ((with_reducible refine gate_dst (N := 48) rfl ?_); refine Kd.R_lit (Kd.int .u8) _ 5 ?hg (N := 48) ?hd (xs := ([1, 1, 4, 2] : List Int)) (inner := [.int .u8 1, .int .u8 1, .int .u8 4, .int .u8 2]) (ok := fun _ => True) (okp := fun _ => True) ?hr ?hp (fun _ hk => hk) trivial (Below.refl _ _) (Nat.le_refl _) (by simp) ?_; (case hd => rfl); (case hg => rfl); (case hr => first | (go_simp; done) | (go_simp; rfl)); (case hp => exact (Reps.one (show Kd.M (Kd.int .u8) _ _ _ 1 [.int .u8 1] from rfl) (Reps.one (show Kd.M (Kd.int .u8) _ _ _ 1 [.int .u8 1] from rfl) (Reps.one (show Kd.M (Kd.int .u8) _ _ _ 4 [.int .u8 4] from rfl) (Reps.one (show Kd.M (Kd.int .u8) _ _ _ 2 [.int .u8 2] from rfl) (Reps.none _ _)))))); intro v359 w43 ho44 hb hg_ hnew_; clear hg_ hnew_; (first | rw [← Ny358.out] at ho44 | (simp only [Int.reduceToNat] at ho44; rw [← Ny358.out] at ho44)); have n0_ := Aside0.mk (Kd.R_elder' (Rh HO_8) (Kd.R_base ho44) hb); have n1_ := Aside0.mk (Kd.R_lower (Kd.R_new' ho44 (Kd.R_lt (Rh HO_8))) (below_size wB)); have n2_ := Aside0.mk (blk_below (Bh BK339) hb); have n3_ := Aside0.mk (below_step wB hb); clear HO_8; clear BK339; clear HB; have HO_8 := n0_; have HO360 := n1_; have BK339 := n2_; have HB := n3_; clear n0_ n1_ n2_ n3_; clear hb ho44; obtain ⟨Ao46, co46, eo46⟩ := Kd.R_slice HO360.out; subst eo46) | ((with_reducible refine gate_builtin (b := .append) (xs := #[.tmp 47, .tmp 48]) rfl ?_); at_builtin; refine Kd.R_append_rows (Kd.int .u8) (w0 := w) w.heap.size rfl (.tmp 47) (.tmp 48) 22 5 (.int .u8 0) 1 rfl Try.underlying22 info5 rfl (by decide) (by omega) u8 x8_29 y358 _ _ _ (fun k_ => some k_ ≠ (.slice Ao46 y358.length co46 : Value).ownBlock) (fun _ => False) rfl rfl ?aO ?aR (fun _ _ h => h) (fun _ h => h.elim) ?aF ?aB ?aS ?aL ?_; (case aR => exact Ch HO360); (case aB => exact wB); (case aF => exact (fun k_ hk => Kd.fresh' (Kd.R_lt (Rh HO360)) k_ hk)); (case aO => exact (Kd.R_mono (Rh HO_8) (fun _ hk => hk.2))); (case aS => exact (below_size wB)); (case aL => have := LMc42.out; omega); intro v362 w45 ho hb hg hat; rw [← Ny361.out] at ho; have n0_ := Aside0.mk (blk_grown (Bh BK339) hg (Kd.R_ne HO_8.out BK339.out (by decide))); have n1_ := Aside0.mk (Kd.R_after (ok := (fun _ => True)) (Rh HO360) hg hat); have n2_ := Aside0.mk (hb); have n3_ := Aside0.mk (ho); clear BK339; clear HO360; clear HB; clear HO_8; have BK339 := n0_; have HO360 := n1_; have HB := n2_; have HO363 := n3_; clear n0_ n1_ n2_ n3_; clear ho hb hg hat))
 go_meet
 case rel => exact ⟨_, (y361), H', ⟨by have := HJ3.out; have := HJ17.out; have := HJ29.out; first | omega | exact Nat.le_refl _⟩, ⟨Kd.R_mono (Rh HO363) (fun _ hk => trivial)⟩, ⟨Bh BK339⟩, ⟨wB⟩⟩
 }
 {
 rw [if_neg c42] at H
 exact absurd H (by simp)
 }
 }
 {
 replace c41 := Bool.eq_false_iff.mpr c41
 subst c41
 have H1 : (impl_EncodeSegment.j3 kj29 a1 a2 x8_29 a0_0 a0_1 a0_2 a0_3 a0_4 a0_5 a0_6 a0_7 a0_8 false l0_10 l0_11) = some (r1, r2) := by rw [if_neg (show ¬ (false = true) by decide)] at H; exact H
 clear H
 have H := H1
 clear H1
 have H' := Aside0.mk H
 clear H
 go_wp2
 go_meet
 case rel => exact ⟨_, (x8_29), H', ⟨by have := HJ3.out; have := HJ17.out; have := HJ29.out; first | omega | exact Nat.le_refl _⟩, ⟨Rh HO_8⟩, ⟨Bh BK339⟩, ⟨wB⟩⟩
 }
 )
 case rest => (
 clear HC39
 try clear c1
 try clear c2
 try clear p2
 try clear c3
 try clear c4
 try clear c6
 try clear c7
 try clear c9
 try clear c12
 try clear c17
 try clear c20
 try clear c20b0
 try clear c20b1
 try clear c21
 try clear c32
 try clear c33
 try clear c41
 try clear c42
 try clear hcz11_0 hcz11_1 hcz11_10 hcz11_11 hcz11_2 hcz11_3 hcz11_4 hcz11_5 hcz11_6 hcz11_7 hcz11_8 hcz11_9 hfz11_0 hfz11_1 hfz11_10 hfz11_11 hfz11_2 hfz11_3 hfz11_4 hfz11_5 hfz11_6 hfz11_7 hfz11_8 hfz11_9
 try clear hcz13_0 hcz13_1 hcz13_10 hcz13_11 hcz13_2 hcz13_3 hcz13_4 hcz13_5 hcz13_6 hcz13_7 hcz13_8 hcz13_9 hfz13_0 hfz13_1 hfz13_10 hfz13_11 hfz13_2 hfz13_3 hfz13_4 hfz13_5 hfz13_6 hfz13_7 hfz13_8 hfz13_9
 try clear hcz15_0 hcz15_1 hcz15_10 hcz15_11 hcz15_2 hcz15_3 hcz15_4 hcz15_5 hcz15_6 hcz15_7 hcz15_8 hcz15_9 hfz15_0 hfz15_1 hfz15_10 hfz15_11 hfz15_2 hfz15_3 hfz15_4 hfz15_5 hfz15_6 hfz15_7 hfz15_8 hfz15_9
 try clear hcz19_0 hcz19_1 hcz19_10 hcz19_11 hcz19_2 hcz19_3 hcz19_4 hcz19_5 hcz19_6 hcz19_7 hcz19_8 hcz19_9 hfz19_0 hfz19_1 hfz19_10 hfz19_11 hfz19_2 hfz19_3 hfz19_4 hfz19_5 hfz19_6 hfz19_7 hfz19_8 hfz19_9
 try clear hcz31_0 hcz31_1 hcz31_10 hcz31_11 hcz31_2 hcz31_3 hcz31_4 hcz31_5 hcz31_6 hcz31_7 hcz31_8 hcz31_9 hfz31_0 hfz31_1 hfz31_10 hfz31_11 hfz31_2 hfz31_3 hfz31_4 hfz31_5 hfz31_6 hfz31_7 hfz31_8 hfz31_9
 try clear hcz34_0 hcz34_1 hcz34_10 hcz34_11 hcz34_2 hcz34_3 hcz34_4 hcz34_5 hcz34_6 hcz34_7 hcz34_8 hcz34_9 hfz34_0 hfz34_1 hfz34_10 hfz34_11 hfz34_2 hfz34_3 hfz34_4 hfz34_5 hfz34_6 hfz34_7 hfz34_8 hfz34_9
 try clear hcz40_0 hcz40_1 hcz40_10 hcz40_11 hcz40_2 hcz40_3 hcz40_4 hcz40_5 hcz40_6 hcz40_7 hcz40_8 hcz40_9 hfz40_0 hfz40_1 hfz40_10 hfz40_11 hfz40_2 hfz40_3 hfz40_4 hfz40_5 hfz40_6 hfz40_7 hfz40_8 hfz40_9
 try clear p2
 obtain ⟨kq, x8_38, HA, HJ38, HO_8, BK339, HB⟩ := hcut
 cases kq with
 | zero => exact absurd HA.out (by simp [impl_EncodeSegment.j3])
 | succ kj38 => {
 have H := HA.out
 clear HA
 simp only [impl_EncodeSegment.j3] at H
 have HC47 := Aside0.mk H
 clear H
 obtain ⟨⟨hcz48_0, hcz48_1, hcz48_2, hcz48_3, hcz48_4, hcz48_5, hcz48_6, hcz48_7, hcz48_8, hcz48_9, hcz48_10, hcz48_11⟩, hfz48_0, hfz48_1, hfz48_2, hfz48_3, hfz48_4, hfz48_5, hfz48_6, hfz48_7, hfz48_8, hfz48_9, hfz48_10, hfz48_11⟩ := cells12 BK339.out
 go_upto_if 54 with (fail)
 go_cut [8] (fun v8 wc => ∃ (kq : Nat) (x8_46 : List Int), Aside0 (impl_EncodeSegment.j5 kq a1 a2 x8_46 a0_0 a0_1 a0_2 a0_3 a0_4 a0_5 a0_6 a0_7 a0_8 a0_9 l0_10 l0_11 = some (r1, r2)) ∧ Aside0 (kq ≤ kj38) ∧ Aside0 (Kd.R (Kd.int .u8) 5 wc w.heap.size (fun _ => True) v8 x8_46) ∧ Aside0 (wc.heap[gb339]? = some (.cells #[.int .i64 a0_0, .int .i64 a0_1, .int .i64 a0_2, .int .i64 a0_3, .int .i64 a0_4, .int .i64 a0_5, .int .i64 a0_6, .bool a0_7, .int .i64 a0_8, .bool a0_9, (.slice A0_10 l0_10.length c0_10), (.slice A0_11 l0_11.length c0_11)] 51 (0, 0))) ∧ Aside0 (Below w.heap.size w wc))
 case first => (
 have H := HC47.out
 clear HC47
 by_cases c49 : (l0_10.length : Int) > 0
 {
 rw [if_pos c49] at H
 have c49b0 : decide (0 < (l0_10.length : Int)) = true := decide_eq_true c49
 have c49b1 : decide (0 < l0_10.length) = true := decide_eq_true (by omega)
 clear c49
 (first | rw [c49b0] | rw [c49b1] | (simp only [i64_w, i32_w]; rw [c49b0]) | skip)
 obtain ⟨y364, hy364⟩ : ∃ y_ : List Int, y_ = (([1, 1, 5, (wrap64 ((wrap64 (8 * (l0_10.length : Int))) + 2)) % 256] : List Int)) := ⟨_, rfl⟩
 replace H : (if x8_38.length + y364.length < 140737488355328 then (impl_EncodeSegment.l0 kj38 a1 a2 (x8_38 ++ y364) l0_10 (l0_10.length : Int) 0 a0_0 a0_1 a0_2 a0_3 a0_4 a0_5 a0_6 a0_7 a0_8 a0_9 l0_10 l0_11) else (none)) = some (r1, r2) := by first | (rw [hy364]; with_reducible exact H) | (have H2_ := (Option.bind_some _ _).symm.trans H; rw [hy364]; with_reducible exact H2_) | (have H2_ := (Option.bind_some _ _).symm.trans H; with_reducible exact H2_) | with_reducible exact H | (rw [hy364]; exact H) | exact H
 have Ny364 := Aside0.mk hy364
 clear hy364
 by_cases c50 : x8_38.length + y364.length < 140737488355328
 {
 rw [if_pos c50] at H
 have LMc50 := Aside0.mk c50
 clear c50
 obtain ⟨y367, hy367⟩ : ∃ y_ : List Int, y_ = (x8_38 ++ y364) := ⟨_, rfl⟩
 replace H : (impl_EncodeSegment.l0 kj38 a1 a2 y367 l0_10 (l0_10.length : Int) 0 a0_0 a0_1 a0_2 a0_3 a0_4 a0_5 a0_6 a0_7 a0_8 a0_9 l0_10 l0_11) = some (r1, r2) := by first | (rw [hy367]; with_reducible exact H) | (have H2_ := (Option.bind_some _ _).symm.trans H; rw [hy367]; with_reducible exact H2_) | (have H2_ := (Option.bind_some _ _).symm.trans H; with_reducible exact H2_) | with_reducible exact H | (rw [hy367]; exact H) | exact H
 have Ny367 := Aside0.mk hy367
 clear hy367
 have H' := Aside0.mk H
 clear H
 go_wp2_with (first | ((with_reducible refine gate_dst (N := 60) rfl ?_); refine Kd.R_lit (Kd.int .u8) _ 5 ?hg (N := 60) ?hd (xs := ([1, 1, 5, (wrap64 ((wrap64 (8 * (l0_10.length : Int))) + 2)) % 256] : List Int)) (inner := [.int .u8 1, .int .u8 1, .int .u8 5, .int .u8 ((wrap64 ((wrap64 (8 * (l0_10.length : Int))) + 2)) % 256)]) (ok := fun _ => True) (okp := fun _ => True) ?hr ?hp (fun _ hk => hk) trivial (Below.refl _ _) (Nat.le_refl _) (by simp) ?_; (case hd => rfl); (case hg => rfl); (case hr => first | (go_simp; done) | (go_simp; rfl)); (case hp => exact (Reps.one (show Kd.M (Kd.int .u8) _ _ _ 1 [.int .u8 1] from rfl) (Reps.one (show Kd.M (Kd.int .u8) _ _ _ 1 [.int .u8 1] from rfl) (Reps.one (show Kd.M (Kd.int .u8) _ _ _ 5 [.int .u8 5] from rfl) (Reps.one (show Kd.M (Kd.int .u8) _ _ _ ((wrap64 ((wrap64 (8 * (l0_10.length : Int))) + 2)) % 256) [.int .u8 ((wrap64 ((wrap64 (8 * (l0_10.length : Int))) + 2)) % 256)] from rfl) (Reps.none _ _)))))); intro v365 w51 ho52 hb hg_ hnew_; clear hg_ hnew_; (first | rw [← Ny364.out] at ho52 | (simp only [Int.reduceToNat] at ho52; rw [← Ny364.out] at ho52)); have n0_ := Aside0.mk (Kd.R_elder' (Rh HO_8) (Kd.R_base ho52) hb); have n1_ := Aside0.mk (Kd.R_lower (Kd.R_new' ho52 (Kd.R_lt (Rh HO_8))) (below_size wB)); have n2_ := Aside0.mk (blk_below (Bh BK339) hb); have n3_ := Aside0.mk (below_step wB hb); clear HO_8; clear BK339; clear HB; have HO_8 := n0_; have HO366 := n1_; have BK339 := n2_; have HB := n3_; clear n0_ n1_ n2_ n3_; clear hb ho52; obtain ⟨Ao54, co54, eo54⟩ := Kd.R_slice HO366.out; subst eo54) | ((with_reducible refine gate_builtin (b := .append) (xs := #[.tmp 55, .tmp 60]) rfl ?_); at_builtin; refine Kd.R_append_rows (Kd.int .u8) (w0 := w) w.heap.size rfl (.tmp 55) (.tmp 60) 22 5 (.int .u8 0) 1 rfl Try.underlying22 info5 rfl (by decide) (by omega) u8 x8_38 y364 _ _ _ (fun k_ => some k_ ≠ (.slice Ao54 y364.length co54 : Value).ownBlock) (fun _ => False) rfl rfl ?aO ?aR (fun _ _ h => h) (fun _ h => h.elim) ?aF ?aB ?aS ?aL ?_; (case aR => exact Ch HO366); (case aB => exact wB); (case aF => exact (fun k_ hk => Kd.fresh' (Kd.R_lt (Rh HO366)) k_ hk)); (case aO => exact (Kd.R_mono (Rh HO_8) (fun _ hk => hk.2))); (case aS => exact (below_size wB)); (case aL => have := LMc50.out; omega); intro v368 w53 ho hb hg hat; rw [← Ny367.out] at ho; have n0_ := Aside0.mk (blk_grown (Bh BK339) hg (Kd.R_ne HO_8.out BK339.out (by decide))); have n1_ := Aside0.mk (Kd.R_after (ok := (fun _ => True)) (Rh HO366) hg hat); have n2_ := Aside0.mk (hb); have n3_ := Aside0.mk (ho); clear BK339; clear HO366; clear HB; clear HO_8; have BK339 := n0_; have HO366 := n1_; have HB := n2_; have HO369 := n3_; clear n0_ n1_ n2_ n3_; clear ho hb hg hat; obtain ⟨⟨hcz55_0, hcz55_1, hcz55_2, hcz55_3, hcz55_4, hcz55_5, hcz55_6, hcz55_7, hcz55_8, hcz55_9, hcz55_10, hcz55_11⟩, hfz55_0, hfz55_1, hfz55_2, hfz55_3, hfz55_4, hfz55_5, hfz55_6, hfz55_7, hfz55_8, hfz55_9, hfz55_10, hfz55_11⟩ := cells12 BK339.out))
 go_loopg [8, 65] kj38 (fun kq v8 v65 w' => ∃ (x8_5 : List Int) (x65_5 : Int), v65 = .int .i64 x65_5 ∧ Aside0 (impl_EncodeSegment.l0 kq a1 a2 x8_5 l0_10 (l0_10.length : Int) x65_5 a0_0 a0_1 a0_2 a0_3 a0_4 a0_5 a0_6 a0_7 a0_8 a0_9 l0_10 l0_11 = some (r1, r2)) ∧ Aside0 (kq ≤ kj38) ∧ Aside0 (Kd.R (Kd.int .u8) 5 w' w.heap.size (fun _ => True) v8 x8_5) ∧ Aside0 (w'.heap[gb339]? = some (.cells #[.int .i64 a0_0, .int .i64 a0_1, .int .i64 a0_2, .int .i64 a0_3, .int .i64 a0_4, .int .i64 a0_5, .int .i64 a0_6, .bool a0_7, .int .i64 a0_8, .bool a0_9, (.slice A0_10 l0_10.length c0_10), (.slice A0_11 l0_11.length c0_11)] 51 (0, 0))) ∧ Aside0 (Below w.heap.size w w'))
 case atStart => exact ⟨(y367), (0), (by first | rfl | (simp; done) | (simp [*]; done)), H', ⟨Nat.le_refl _⟩, ⟨Kd.R_mono (Rh HO369) (fun _ hk => trivial)⟩, ⟨Bh BK339⟩, ⟨wB⟩⟩
 case round => (
 clear H'
 try clear c1
 try clear c2
 try clear p2
 try clear c3
 try clear c4
 try clear c5
 try clear c6
 try clear p6
 try clear c7
 try clear c9
 try clear c12
 try clear c17
 try clear c20
 try clear c20b0
 try clear c20b1
 try clear c21
 try clear c32
 try clear c33
 try clear c41
 try clear c42
 try clear c49
 try clear c49b0
 try clear c49b1
 try clear c50
 try clear hcz11_0 hcz11_1 hcz11_10 hcz11_11 hcz11_2 hcz11_3 hcz11_4 hcz11_5 hcz11_6 hcz11_7 hcz11_8 hcz11_9 hfz11_0 hfz11_1 hfz11_10 hfz11_11 hfz11_2 hfz11_3 hfz11_4 hfz11_5 hfz11_6 hfz11_7 hfz11_8 hfz11_9
 try clear hcz13_0 hcz13_1 hcz13_10 hcz13_11 hcz13_2 hcz13_3 hcz13_4 hcz13_5 hcz13_6 hcz13_7 hcz13_8 hcz13_9 hfz13_0 hfz13_1 hfz13_10 hfz13_11 hfz13_2 hfz13_3 hfz13_4 hfz13_5 hfz13_6 hfz13_7 hfz13_8 hfz13_9
 try clear hcz15_0 hcz15_1 hcz15_10 hcz15_11 hcz15_2 hcz15_3 hcz15_4 hcz15_5 hcz15_6 hcz15_7 hcz15_8 hcz15_9 hfz15_0 hfz15_1 hfz15_10 hfz15_11 hfz15_2 hfz15_3 hfz15_4 hfz15_5 hfz15_6 hfz15_7 hfz15_8 hfz15_9
 try clear hcz19_0 hcz19_1 hcz19_10 hcz19_11 hcz19_2 hcz19_3 hcz19_4 hcz19_5 hcz19_6 hcz19_7 hcz19_8 hcz19_9 hfz19_0 hfz19_1 hfz19_10 hfz19_11 hfz19_2 hfz19_3 hfz19_4 hfz19_5 hfz19_6 hfz19_7 hfz19_8 hfz19_9
 try clear hcz31_0 hcz31_1 hcz31_10 hcz31_11 hcz31_2 hcz31_3 hcz31_4 hcz31_5 hcz31_6 hcz31_7 hcz31_8 hcz31_9 hfz31_0 hfz31_1 hfz31_10 hfz31_11 hfz31_2 hfz31_3 hfz31_4 hfz31_5 hfz31_6 hfz31_7 hfz31_8 hfz31_9
 try clear hcz34_0 hcz34_1 hcz34_10 hcz34_11 hcz34_2 hcz34_3 hcz34_4 hcz34_5 hcz34_6 hcz34_7 hcz34_8 hcz34_9 hfz34_0 hfz34_1 hfz34_10 hfz34_11 hfz34_2 hfz34_3 hfz34_4 hfz34_5 hfz34_6 hfz34_7 hfz34_8 hfz34_9
 try clear hcz40_0 hcz40_1 hcz40_10 hcz40_11 hcz40_2 hcz40_3 hcz40_4 hcz40_5 hcz40_6 hcz40_7 hcz40_8 hcz40_9 hfz40_0 hfz40_1 hfz40_10 hfz40_11 hfz40_2 hfz40_3 hfz40_4 hfz40_5 hfz40_6 hfz40_7 hfz40_8 hfz40_9
 try clear hcz48_0 hcz48_1 hcz48_10 hcz48_11 hcz48_2 hcz48_3 hcz48_4 hcz48_5 hcz48_6 hcz48_7 hcz48_8 hcz48_9 hfz48_0 hfz48_1 hfz48_10 hfz48_11 hfz48_2 hfz48_3 hfz48_4 hfz48_5 hfz48_6 hfz48_7 hfz48_8 hfz48_9
 try clear hcz55_0 hcz55_1 hcz55_10 hcz55_11 hcz55_2 hcz55_3 hcz55_4 hcz55_5 hcz55_6 hcz55_7 hcz55_8 hcz55_9 hfz55_0 hfz55_1 hfz55_10 hfz55_11 hfz55_2 hfz55_3 hfz55_4 hfz55_5 hfz55_6 hfz55_7 hfz55_8 hfz55_9
 try clear p2
 obtain ⟨x8_5, x65_5, rfl, HA, HK5, HO_8, BK339, HB⟩ := hrel
 cases gk with
 | zero => exact absurd HA.out (by simp [impl_EncodeSegment.l0])
 | succ k5 => {
 have H := HA.out
 clear HA
 simp only [impl_EncodeSegment.l0] at H
 by_cases c56 : x65_5 < (l0_10.length : Int)
 {
 rw [if_pos c56] at H
 have c56b0 : decide (x65_5 < (l0_10.length : Int)) = true := decide_eq_true c56
 clear c56
 by_cases c57 : 0 ≤ x65_5
 {
 rw [if_pos c57] at H
 have c57b0 : decide (0 ≤ x65_5) = true := decide_eq_true c57
 clear c57
 by_cases c58 : x65_5 < (l0_10.length : Int)
 {
 rw [if_pos c58] at H
 have c58b0 : decide (x65_5 < (l0_10.length : Int)) = true := decide_eq_true c58
 clear c58
 replace H := Option.bind_eq_some_iff.mp H
 obtain ⟨t372, A590, H⟩ := H
 replace H : ((impl_put.f k5 t372 4 ((rd_T157 l0_10 x65_5).f1)).bind fun t375 => (impl_EncodeSegment.l0 k5 a1 a2 t375 l0_10 (l0_10.length : Int) (wrap64 (x65_5 + 1)) a0_0 a0_1 a0_2 a0_3 a0_4 a0_5 a0_6 a0_7 a0_8 a0_9 l0_10 l0_11)) = some (r1, r2) := H
 have A59 := Aside0.mk A590
 clear A590
 replace H := Option.bind_eq_some_iff.mp H
 obtain ⟨t375, A600, H⟩ := H
 replace H : (impl_EncodeSegment.l0 k5 a1 a2 t375 l0_10 (l0_10.length : Int) (wrap64 (x65_5 + 1)) a0_0 a0_1 a0_2 a0_3 a0_4 a0_5 a0_6 a0_7 a0_8 a0_9 l0_10 l0_11) = some (r1, r2) := H
 have A60 := Aside0.mk A600
 clear A600
 have H' := Aside0.mk H
 clear H
 have p370 : 0 ≤ (x65_5 : Int) := of_decide_eq_true (by first | (with_reducible assumption) | assumption)
 have q370 : x65_5 < (l0_10.length : Int) := of_decide_eq_true (by first | (with_reducible assumption) | assumption)
 obtain ⟨ad370, e370, hx370_0, hx370_1⟩ := at_T157 HR0_10.out x65_5 p370 q370
 cases e370
 replace hx370_0 := (HB.out.cell (World.block_lt_of_cell? w _ hx370_0)).trans hx370_0
 replace hx370_1 := (HB.out.cell (World.block_lt_of_cell? w _ hx370_1)).trans hx370_1
 replace p370 := eq_true p370
 replace q370 := eq_true q370
 try go_wp2_with (first | ((with_reducible refine gate_dst (N := 11) rfl ?_); refine box_event ?hg (N := 11) ?hd (cs := #[.int .i64 0, .int .i64 0]) (t := 157) ?hr ?_; (case hd => rfl); (case hg => rfl); (case hr => first | (go_simp; done) | (go_simp; rfl)); intro gb371 hg w61 hbox hb; have n0_ := Aside0.mk (Kd.R_below (Rh HO_8) hb); have n1_ := Aside0.mk (blk_below (Bh BK339) hb); have n2_ := Aside0.mk (below_step wB hb); have n3_ := Aside0.mk (hbox); have n4_ := Aside0.mk ((by rw [hg]; exact (below_size wB) : w.heap.size ≤ gb371)); have n5_ := Aside0.mk ((by rw [hg]; exact (below_size wB) : w.heap.size ≤ gb371)); have n6_ := Aside0.mk ((by rw [hg]; exact Nat.ne_of_lt (blk_lt (Bh BK339)) : gb339 ≠ gb371)); have n7_ := Aside0.mk ((by rw [hg]; exact Nat.ne_of_gt (blk_lt (Bh BK339)) : gb371 ≠ gb339)); clear HO_8; clear BK339; clear HB; have HO_8 := n0_; have BK339 := n1_; have HB := n2_; have BK371 := n3_; have GW371 := n4_; have GE371 := n5_; have NB339_371 := n6_; have NB371_339 := n7_; clear n0_ n1_ n2_ n3_ n4_ n5_ n6_ n7_; clear hb hbox hg; have hnb62 := NB371_339.out; have hnc62 := NB339_371.out; obtain ⟨⟨hcz63_0, hcz63_1⟩, hfz63_0, hfz63_1⟩ := cells2 BK371.out) | ((with_reducible refine gate_store (t := 157) (p := 11) rfl ?_); (try (rw [drewN_self w61]; generalize hq_ : World.drewN w61 _ = w61; have n0_ := Aside0.mk (Kd.R_at hq_ HO_8.out); have n1_ := Aside0.mk (blk_at hq_ BK339.out); have n2_ := Aside0.mk (blk_at hq_ BK371.out); have n3_ := Aside0.mk (below_at hq_ HB.out); clear hq_ HO_8 BK339 BK371 HB; have HO_8 := n0_; have BK339 := n1_; have BK371 := n2_; have HB := n3_; clear n0_ n1_ n2_ n3_; (try (obtain ⟨⟨hcyBK339_0, hcyBK339_1, hcyBK339_2, hcyBK339_3, hcyBK339_4, hcyBK339_5, hcyBK339_6, hcyBK339_7, hcyBK339_8, hcyBK339_9, hcyBK339_10, hcyBK339_11⟩, hfyBK339_0, hfyBK339_1, hfyBK339_2, hfyBK339_3, hfyBK339_4, hfyBK339_5, hfyBK339_6, hfyBK339_7, hfyBK339_8, hfyBK339_9, hfyBK339_10, hfyBK339_11⟩ := cells12 BK339.out)); (try (obtain ⟨⟨hcyBK371_0, hcyBK371_1⟩, hfyBK371_0, hfyBK371_1⟩ := cells2 BK371.out)))); refine store_event (t := 157) (p := 11) (v := ?vo_w64) (w1 := ((w61.setCell ⟨gb371, 0, none⟩ (.int .i64 ((rd_T157 l0_10 x65_5).f0))).setCell ⟨gb371, 1, none⟩ (.int .i64 ((rd_T157 l0_10 x65_5).f1)))) ?hg ?ho ?hn ?hr ?_; (case ho => rfl); (case hg => rfl); (case hn => rfl); (case hr => first | (go_simp; done) | (go_simp; rfl)); intro w64 hw; have n0_ : Aside0 (Kd.R (Kd.int .u8) 5 w64 w.heap.size (fun _ => True) u8 x8_5) := ⟨(by rw [hw]; exact (by (with_reducible repeat (first | apply Kd.R_alloc | apply Kd.R_drewN | apply Kd.R_drew)); exact Kd.R_mono (Kd.R_far (p := ⟨gb371, 1, none⟩) (Kd.R_far (p := ⟨gb371, 0, none⟩) (Kd.R_types HO_8.out BK371.out (by decide)) (fun _ hk => hk.2) (.int .i64 ((rd_T157 l0_10 x65_5).f0))) (fun _ hk => hk.2) (.int .i64 ((rd_T157 l0_10 x65_5).f1))) (fun _ hk => trivial)))⟩; have n1_ : Aside0 (w64.heap[gb339]? = some (.cells #[.int .i64 a0_0, .int .i64 a0_1, .int .i64 a0_2, .int .i64 a0_3, .int .i64 a0_4, .int .i64 a0_5, .int .i64 a0_6, .bool a0_7, .int .i64 a0_8, .bool a0_9, .slice (some ad370) l0_10.length c0_10, .slice A0_11 l0_11.length c0_11] 51 (0, 0))) := ⟨(by rw [hw]; exact (by (with_reducible repeat (first | refine blk_drewN ?_ _ | refine blk_drew ?_ | refine blk_alloc ?_ _)); refine blk_far ?_ NB339_371.out _; (with_reducible repeat (first | refine blk_drewN ?_ _ | refine blk_drew ?_ | refine blk_alloc ?_ _)); refine blk_far ?_ NB339_371.out _; (with_reducible repeat (first | refine blk_drewN ?_ _ | refine blk_drew ?_ | refine blk_alloc ?_ _)); exact BK339.out))⟩; have n2_ : Aside0 (w64.heap[gb371]? = some (.cells #[.int .i64 ((rd_T157 l0_10 x65_5).f0), .int .i64 ((rd_T157 l0_10 x65_5).f1)] 157 (0, 0))) := ⟨(by rw [hw]; exact (by (with_reducible repeat (first | refine blk_drewN ?_ _ | refine blk_drew ?_ | refine blk_alloc ?_ _)); refine blk_put (cs := #[.int .i64 ((rd_T157 l0_10 x65_5).f0), .int .i64 0]) ?_ 1 _ rfl; (with_reducible repeat (first | refine blk_drewN ?_ _ | refine blk_drew ?_ | refine blk_alloc ?_ _)); refine blk_put (cs := #[.int .i64 0, .int .i64 0]) ?_ 0 _ rfl; (with_reducible repeat (first | refine blk_drewN ?_ _ | refine blk_drew ?_ | refine blk_alloc ?_ _)); exact BK371.out))⟩; have n3_ : Aside0 (Below w.heap.size w w64) := ⟨(by rw [hw]; exact wB)⟩; clear hw; clear HO_8; clear BK339; clear BK371; clear HB; have HO_8 := n0_; have BK339 := n1_; have BK371 := n2_; have HB := n3_; clear n0_ n1_ n2_ n3_))
 have n0_ := Aside0.mk (Kd.R_drew HO_8.out)
 have n1_ := Aside0.mk (blk_drew BK339.out)
 have n2_ := Aside0.mk (blk_drew BK371.out)
 have n3_ := Aside0.mk (below_drew1 HB.out)
 clear HO_8
 clear BK339
 clear BK371
 clear HB
 have HO_8 := n0_
 have BK339 := n1_
 have BK371 := n2_
 have HB := n3_
 clear n0_ n1_ n2_ n3_
 obtain ⟨Ao66, co66, eo66⟩ := Kd.R_slice HO_8.out
 (first | subst eo66 | (injection eo66 with f1_ f2_ f3_; have f4_ := f1_.symm; have f5_ := f3_.symm; clear f1_ f2_ f3_; subst f4_; subst f5_))
 refine start_ (n := 8) (S := fun w' => w'.cell? ⟨gb371, 0, none⟩ = some (.int .i64 ((rd_T157 l0_10 x65_5).f0)) ∧ w'.cell? ⟨gb371, 1, none⟩ = some (.int .i64 ((rd_T157 l0_10 x65_5).f1))) (ds := []) #[false, false, false, false, false, false, false, false] (by kernel_rfl) rfl rfl ⟨(blk_cell BK371.out 0).trans rfl, (blk_cell BK371.out 1).trans rfl⟩ (fun hHeld => ?_); refine with_tabW impl_EncodeSegment.tab16 impl_EncodeSegment.bits16 (fun HT_ HW_ => ?_)
 generalize w64.drew = w65 at HO_8 BK339 BK371 HB hHeld ⊢
 refine pure_ (i := 0) (N := some 69) (v := ?_) (a' := ?_) #[true, false, false, false, false, false, false, false] rfl rfl (any_of HT_.out (by kernel_rfl)) (fun _ _ _ h => h) (Or.inl ⟨by rfl, ?_⟩) ?_ ?_
 rotate_left
 {
 intro w'
 go_simp
 with_reducible rfl
 }
 rotate_left
 {
 simp only [Act.put, List.setIfInBounds_toArray, List.set_cons_zero, List.set_cons_succ, i64_w, i32_w]
 rfl
 }
 refine pure_ (i := 1) (N := some 70) (v := ?_) (a' := ?_) #[true, true, false, false, false, false, false, false] rfl rfl (any_of HT_.out (by kernel_rfl)) (fun _ _ _ h => h) (Or.inl ⟨by rfl, ?_⟩) ?_ ?_
 rotate_left
 {
 intro w'
 go_simp
 with_reducible rfl
 }
 rotate_left
 {
 simp only [Act.put, List.setIfInBounds_toArray, List.set_cons_zero, List.set_cons_succ, i64_w, i32_w]
 rfl
 }
 refine pure_ (i := 4) (N := some 73) (v := ?_) (a' := ?_) #[true, true, false, false, true, false, false, false] rfl rfl (any_of HT_.out (by kernel_rfl)) (fun _ _ _ h => h) (Or.inl ⟨by rfl, ?_⟩) ?_ ?_
 rotate_left
 {
 intro w'
 go_simp
 with_reducible rfl
 }
 rotate_left
 {
 simp only [Act.put, List.setIfInBounds_toArray, List.set_cons_zero, List.set_cons_succ, i64_w, i32_w]
 rfl
 }
 refine take_ (i := 2) (N := some 71) (v := ?_) (a' := ?_) #[true, true, true, false, true, false, false, false] rfl rfl (take_ofW HT_.out HW_.out (by kernel_rfl)) (fun _ _ _ h => h) (Or.inl ⟨by rfl, ?_⟩) hHeld ?_ ?_
 rotate_left
 {
 rintro w' ⟨s0, s1⟩
 go_simp
 with_reducible rfl
 }
 rotate_left
 {
 simp only [Act.put, List.setIfInBounds_toArray, List.set_cons_zero, List.set_cons_succ, i64_w, i32_w]
 rfl
 }
 refine take_ (i := 5) (N := some 74) (v := ?_) (a' := ?_) #[true, true, true, false, true, true, false, false] rfl rfl (take_ofW HT_.out HW_.out (by kernel_rfl)) (fun _ _ _ h => h) (Or.inl ⟨by rfl, ?_⟩) hHeld ?_ ?_
 rotate_left
 {
 rintro w' ⟨s0, s1⟩
 go_simp
 with_reducible rfl
 }
 rotate_left
 {
 simp only [Act.put, List.setIfInBounds_toArray, List.set_cons_zero, List.set_cons_succ, i64_w, i32_w]
 rfl
 }
 refine one_ (i := 3) (N := some 72) #[true, true, true, true, true, true, false, false] rfl rfl (one_of HT_.out (by kernel_rfl)) (by decide) (fun K hK => ?_)
 refine goes_ Try.func127 (by kernel_rfl) rfl #[.slice Ao66 x8_5.length co66, .int .i64 4, .int .i64 ((rd_T157 l0_10 x65_5).f0)] (by rfl) rfl rfl wT ?_
 with_reducible refine (impl_put.calls k5 (fun k_ => some k_ = (.slice Ao66 x8_5.length co66 : Value).ownBlock) (.slice Ao66 x8_5.length co66) x8_5 4 ((rd_T157 l0_10 x65_5).f0) t372 w _ ?side1 ?side2 A59.out).mono ?_
 (case side1 => repeat (first | (with_reducible first | exact HB.out | apply below_alloc | apply pw_below_drewN | apply below_drew1 | refine below_set ?_ GE339.out | refine below_set ?_ GE371.out) | exact HB.out))
 (case side2 => exact Kd.R_tight rfl HO_8.out)
 rintro e w67 ⟨v373, rfl, ho0, hb, hkp⟩
 refine ⟨_, rfl, ?_⟩
 have n0_ := Aside0.mk (blk_kept (Bh BK339) hkp (fun hs_ => (fun e_ => (Kd.R_ne HO_8.out BK339.out (by decide)) e_) hs_))
 have n1_ := Aside0.mk (blk_kept (Bh BK371) hkp (fun hs_ => (fun e_ => (Kd.R_ne HO_8.out BK371.out (by decide)) e_) hs_))
 have n2_ := Aside0.mk (Kd.R_mono (ok' := fun k_ => True) ho0 (fun k_ hk_ => trivial))
 have n3_ := Aside0.mk (hb)
 clear BK339
 clear BK371
 clear HB
 clear HO_8
 have BK339 := n0_
 have BK371 := n1_
 have HO374 := n2_
 have HB := n3_
 clear n0_ n1_ n2_ n3_
 (try clear hb)
 (try clear hkp)
 (try clear ho0)
 obtain ⟨Ao68, co68, eo68⟩ := Kd.R_slice HO374.out
 (first | subst eo68 | (injection eo68 with f1_ f2_ f3_; have f4_ := f1_.symm; have f5_ := f3_.symm; clear f1_ f2_ f3_; subst f4_; subst f5_))
 refine hK.out _ _ ⟨(blk_cell BK371.out 0).trans rfl, (blk_cell BK371.out 1).trans rfl⟩ (fun hHeld => ?_)
 clear hK K
 refine norm_ (a' := ?_) ?_ ?_
 rotate_left
 {
 show Act.put _ (some 72) _ = _
 simp only [Act.put, List.setIfInBounds_toArray, List.set_cons_zero, List.set_cons_succ, i64_w, i32_w]
 rfl
 }
 refine one_ (i := 6) (N := some 75) #[true, true, true, true, true, true, true, false] rfl rfl (one_of HT_.out (by kernel_rfl)) (by decide) (fun K hK => ?_)
 refine goes_ Try.func127 (by kernel_rfl) rfl #[.slice Ao68 t372.length co68, .int .i64 4, .int .i64 ((rd_T157 l0_10 x65_5).f1)] (by rfl) rfl rfl wT ?_
 with_reducible refine (impl_put.calls k5 (fun k_ => some k_ = (.slice Ao68 t372.length co68 : Value).ownBlock) (.slice Ao68 t372.length co68) t372 4 ((rd_T157 l0_10 x65_5).f1) t375 w _ ?side1 ?side2 A60.out).mono ?_
 (case side1 => repeat (first | (with_reducible first | exact HB.out | apply below_alloc | apply pw_below_drewN | apply below_drew1 | refine below_set ?_ GE339.out | refine below_set ?_ GE371.out) | exact HB.out))
 (case side2 => exact Kd.R_tight rfl HO374.out)
 rintro e w69 ⟨v376, rfl, ho0, hb, hkp⟩
 refine ⟨_, rfl, ?_⟩
 have n0_ := Aside0.mk (blk_kept (Bh BK339) hkp (fun hs_ => (fun e_ => (Kd.R_ne HO374.out BK339.out (by decide)) e_) hs_))
 have n1_ := Aside0.mk (blk_kept (Bh BK371) hkp (fun hs_ => (fun e_ => (Kd.R_ne HO374.out BK371.out (by decide)) e_) hs_))
 have n2_ := Aside0.mk (Kd.R_mono (ok' := fun k_ => True) ho0 (fun k_ hk_ => trivial))
 have n3_ := Aside0.mk (hb)
 clear BK339
 clear BK371
 clear HB
 clear HO374
 have BK339 := n0_
 have BK371 := n1_
 have HO377 := n2_
 have HB := n3_
 clear n0_ n1_ n2_ n3_
 (try clear hb)
 (try clear hkp)
 (try clear ho0)
 refine hK.out _ _ ⟨(blk_cell BK371.out 0).trans rfl, (blk_cell BK371.out 1).trans rfl⟩ (fun hHeld => ?_)
 clear hK K
 refine norm_ (a' := ?_) ?_ ?_
 rotate_left
 {
 show Act.put _ (some 75) _ = _
 simp only [Act.put, List.setIfInBounds_toArray, List.set_cons_zero, List.set_cons_succ, i64_w, i32_w]
 rfl
 }
 refine pure_ (i := 7) (N := some 8) (v := ?_) (a' := ?_) #[true, true, true, true, true, true, true, true] rfl rfl (any_of HT_.out (by kernel_rfl)) (fun _ _ _ h => h) (Or.inl ⟨by rfl, ?_⟩) ?_ ?_
 rotate_left
 {
 intro w'
 go_simp
 with_reducible rfl
 }
 rotate_left
 {
 simp only [Act.put, List.setIfInBounds_toArray, List.set_cons_zero, List.set_cons_succ, i64_w, i32_w]
 rfl
 }
 refine done_ (done_of HT_.out (by kernel_rfl)) ?_
 try go_wp2
 go_roundg k5
 case measure => have := HJ3.out; have := HJ17.out; have := HJ29.out; have := HJ38.out; have := HK5.out; omega
 case rel => exact ⟨(t375), (wrap64 (x65_5 + 1)), (by first | rfl | (simp; done) | (simp [*]; done)), H', ⟨by have := HJ3.out; have := HJ17.out; have := HJ29.out; have := HJ38.out; have := HK5.out; omega⟩, ⟨Rh HO377⟩, ⟨Bh BK339⟩, ⟨wB⟩⟩
 }
 {
 rw [if_neg c58] at H
 exact absurd H (by simp)
 }
 }
 {
 rw [if_neg c57] at H
 exact absurd H (by simp)
 }
 }
 {
 rw [if_neg c56] at H
 have c56b0 : decide (x65_5 < (l0_10.length : Int)) = false := decide_eq_false c56
 clear c56
 have H' := Aside0.mk H
 clear H
 go_wp2
 go_meet
 case rel => exact ⟨_, (x8_5), H', ⟨by have := HJ3.out; have := HJ17.out; have := HJ29.out; have := HJ38.out; have := HK5.out; first | omega | exact Nat.le_refl _⟩, ⟨Rh HO_8⟩, ⟨Bh BK339⟩, ⟨wB⟩⟩
 }
 }
 )
 }
 {
 rw [if_neg c50] at H
 exact absurd H (by simp)
 }
 }
 {
 rw [if_neg c49] at H
 have c49b0 : decide (0 < (l0_10.length : Int)) = false := decide_eq_false c49
 have c49b1 : decide (0 < l0_10.length) = false := decide_eq_false (by omega)
 clear c49
 (first | rw [c49b0] | rw [c49b1] | (simp only [i64_w, i32_w]; rw [c49b0]) | skip)
 have H' := Aside0.mk H
 clear H
 go_wp2
 go_meet
 case rel => exact ⟨_, (x8_38), H', ⟨by have := HJ3.out; have := HJ17.out; have := HJ29.out; have := HJ38.out; first | omega | exact Nat.le_refl _⟩, ⟨Rh HO_8⟩, ⟨Bh BK339⟩, ⟨wB⟩⟩
 }
 )
 case rest => (
 clear HC47
 try clear c1
 try clear c2
 try clear p2
 try clear c3
 try clear p3
 try clear q3
 try clear hx3
 try clear c4
 try clear c5
 try clear c6
 try clear p6
 try clear c7
 try clear c9
 try clear c12
 try clear c17
 try clear c20
 try clear c20b0
 try clear c20b1
 try clear c21
 try clear c32
 try clear c33
 try clear p37
 try clear q37
 try clear hx37
 try clear c41
 try clear c42
 try clear c49
 try clear c49b0
 try clear c49b1
 try clear c50
 try clear c56
 try clear c56b0
 try clear c57
 try clear c57b0
 try clear c58
 try clear c58b0
 try clear c62
 try clear p64
 try clear hcz11_0 hcz11_1 hcz11_10 hcz11_11 hcz11_2 hcz11_3 hcz11_4 hcz11_5 hcz11_6 hcz11_7 hcz11_8 hcz11_9 hfz11_0 hfz11_1 hfz11_10 hfz11_11 hfz11_2 hfz11_3 hfz11_4 hfz11_5 hfz11_6 hfz11_7 hfz11_8 hfz11_9
 try clear hcz13_0 hcz13_1 hcz13_10 hcz13_11 hcz13_2 hcz13_3 hcz13_4 hcz13_5 hcz13_6 hcz13_7 hcz13_8 hcz13_9 hfz13_0 hfz13_1 hfz13_10 hfz13_11 hfz13_2 hfz13_3 hfz13_4 hfz13_5 hfz13_6 hfz13_7 hfz13_8 hfz13_9
 try clear hcz15_0 hcz15_1 hcz15_10 hcz15_11 hcz15_2 hcz15_3 hcz15_4 hcz15_5 hcz15_6 hcz15_7 hcz15_8 hcz15_9 hfz15_0 hfz15_1 hfz15_10 hfz15_11 hfz15_2 hfz15_3 hfz15_4 hfz15_5 hfz15_6 hfz15_7 hfz15_8 hfz15_9
 try clear hcz19_0 hcz19_1 hcz19_10 hcz19_11 hcz19_2 hcz19_3 hcz19_4 hcz19_5 hcz19_6 hcz19_7 hcz19_8 hcz19_9 hfz19_0 hfz19_1 hfz19_10 hfz19_11 hfz19_2 hfz19_3 hfz19_4 hfz19_5 hfz19_6 hfz19_7 hfz19_8 hfz19_9
 try clear hcz31_0 hcz31_1 hcz31_10 hcz31_11 hcz31_2 hcz31_3 hcz31_4 hcz31_5 hcz31_6 hcz31_7 hcz31_8 hcz31_9 hfz31_0 hfz31_1 hfz31_10 hfz31_11 hfz31_2 hfz31_3 hfz31_4 hfz31_5 hfz31_6 hfz31_7 hfz31_8 hfz31_9
 try clear hcz34_0 hcz34_1 hcz34_10 hcz34_11 hcz34_2 hcz34_3 hcz34_4 hcz34_5 hcz34_6 hcz34_7 hcz34_8 hcz34_9 hfz34_0 hfz34_1 hfz34_10 hfz34_11 hfz34_2 hfz34_3 hfz34_4 hfz34_5 hfz34_6 hfz34_7 hfz34_8 hfz34_9
 try clear hcz40_0 hcz40_1 hcz40_10 hcz40_11 hcz40_2 hcz40_3 hcz40_4 hcz40_5 hcz40_6 hcz40_7 hcz40_8 hcz40_9 hfz40_0 hfz40_1 hfz40_10 hfz40_11 hfz40_2 hfz40_3 hfz40_4 hfz40_5 hfz40_6 hfz40_7 hfz40_8 hfz40_9
 try clear hcz48_0 hcz48_1 hcz48_10 hcz48_11 hcz48_2 hcz48_3 hcz48_4 hcz48_5 hcz48_6 hcz48_7 hcz48_8 hcz48_9 hfz48_0 hfz48_1 hfz48_10 hfz48_11 hfz48_2 hfz48_3 hfz48_4 hfz48_5 hfz48_6 hfz48_7 hfz48_8 hfz48_9
 try clear hcz55_0 hcz55_1 hcz55_10 hcz55_11 hcz55_2 hcz55_3 hcz55_4 hcz55_5 hcz55_6 hcz55_7 hcz55_8 hcz55_9 hfz55_0 hfz55_1 hfz55_10 hfz55_11 hfz55_2 hfz55_3 hfz55_4 hfz55_5 hfz55_6 hfz55_7 hfz55_8 hfz55_9
 try clear hcz63_0 hcz63_1 hfz63_0 hfz63_1
 try clear hx370_0
 try clear hx370_1
 try clear p2
 try clear p370
 try clear p6
 try clear q370
 obtain ⟨kq, x8_46, HA, HJ46, HO_8, BK339, HB⟩ := hcut
 cases kq with
 | zero => exact absurd HA.out (by simp [impl_EncodeSegment.j5])
 | succ kj46 => {
 have H := HA.out
 clear HA
 simp only [impl_EncodeSegment.j5] at H
 by_cases c70 : (wrap64 ((wrap64 (20 + (x8_46.length : Int))) + (l0_11.length : Int))) > 65515
 {
 rw [if_pos c70] at H
 have c70b0 : decide (65515 < (wrap64 ((wrap64 (20 + (x8_46.length : Int))) + (l0_11.length : Int)))) = true := decide_eq_true c70
 clear c70
 simp only [Option.some.injEq, Prod.mk.injEq] at H
 obtain ⟨rfl, rfl⟩ := H
 obtain ⟨Ao71, co71, eo71⟩ := Kd.R_slice HO_8.out
 subst eo71
 obtain ⟨⟨hcz72_0, hcz72_1, hcz72_2, hcz72_3, hcz72_4, hcz72_5, hcz72_6, hcz72_7, hcz72_8, hcz72_9, hcz72_10, hcz72_11⟩, hfz72_0, hfz72_1, hfz72_2, hfz72_3, hfz72_4, hfz72_5, hfz72_6, hfz72_7, hfz72_8, hfz72_9, hfz72_10, hfz72_11⟩ := cells12 BK339.out
 go_wp2
 go_ret2
 exact ⟨_, by first | rfl | (simp [errW_none, errW_some] <;> rfl) | (simp [*, errW_none, errW_some] <;> rfl), by first | exact Kd.R_nil _ _ _ _ _ | exact Kd.N_nil _ _ _ _ _ | exact Kd.V_nil _ _ _ _ _ | exact Kd.Q_nil _ _ _ _ _ | exact Kd.S_nil _ _ _ _ _, wB⟩
 }
 {
 rw [if_neg c70] at H
 have c70b0 : decide (65515 < (wrap64 ((wrap64 (20 + (x8_46.length : Int))) + (l0_11.length : Int)))) = false := decide_eq_false c70
 clear c70
 replace H := Option.bind_eq_some_iff.mp H
 obtain ⟨t378, A730, H⟩ := H
 replace H : ((impl_put.f kj46 t378 2 a0_1).bind fun t381 => ((impl_put.f kj46 t381 4 a0_2).bind fun t384 => ((impl_put.f kj46 t384 4 a0_3).bind fun t387 => ((some (([(wrap64 ((wrap64 (Int.tdiv (wrap64 (20 + (x8_46.length : Int))) 4)) * 16)) % 256, (a0_4) % 256] : List Int) : List Int)).bind fun y390 => (if t387.length + y390.length < 140737488355328 then ((impl_put.f kj46 (t387 ++ y390) 2 a0_5).bind fun t396 => ((some (([0, 0, 0, 0] : List Int) : List Int)).bind fun y399 => (if t396.length + y399.length < 140737488355328 then ((some (t396 ++ y399 : List Int)).bind fun y402 => (if y402.length + x8_46.length < 140737488355328 then ((some (y402 ++ x8_46 : List Int)).bind fun y405 => (if y405.length + l0_11.length < 140737488355328 then ((some (y405 ++ l0_11 : List Int)).bind fun y408 => ((impl_FalseHead.f kj46 a1 a2 6 (y408.length : Int)).bind fun t411 => (if t411.length + y408.length < 140737488355328 then ((impl_Checksum.f kj46 (t411 ++ y408)).bind fun t417 => (if 16 < (y408.length : Int) then (if 17 < (y408.length : Int) then (some (((y408.set (16 : Int).toNat ((t417 / 256) % 256)).set (17 : Int).toNat ((t417) % 256)), 0)) else (none)) else (none))) else (none)))) else (none))) else (none))) else (none)))) else (none)))))) = some (r1, r2) := H
 have A73 := Aside0.mk A730
 clear A730
 replace H := Option.bind_eq_some_iff.mp H
 obtain ⟨t381, A740, H⟩ := H
 replace H : ((impl_put.f kj46 t381 4 a0_2).bind fun t384 => ((impl_put.f kj46 t384 4 a0_3).bind fun t387 => ((some (([(wrap64 ((wrap64 (Int.tdiv (wrap64 (20 + (x8_46.length : Int))) 4)) * 16)) % 256, (a0_4) % 256] : List Int) : List Int)).bind fun y390 => (if t387.length + y390.length < 140737488355328 then ((impl_put.f kj46 (t387 ++ y390) 2 a0_5).bind fun t396 => ((some (([0, 0, 0, 0] : List Int) : List Int)).bind fun y399 => (if t396.length + y399.length < 140737488355328 then ((some (t396 ++ y399 : List Int)).bind fun y402 => (if y402.length + x8_46.length < 140737488355328 then ((some (y402 ++ x8_46 : List Int)).bind fun y405 => (if y405.length + l0_11.length < 140737488355328 then ((some (y405 ++ l0_11 : List Int)).bind fun y408 => ((impl_FalseHead.f kj46 a1 a2 6 (y408.length : Int)).bind fun t411 => (if t411.length + y408.length < 140737488355328 then ((impl_Checksum.f kj46 (t411 ++ y408)).bind fun t417 => (if 16 < (y408.length : Int) then (if 17 < (y408.length : Int) then (some (((y408.set (16 : Int).toNat ((t417 / 256) % 256)).set (17 : Int).toNat ((t417) % 256)), 0)) else (none)) else (none))) else (none)))) else (none))) else (none))) else (none)))) else (none))))) = some (r1, r2) := H
 have A74 := Aside0.mk A740
 clear A740
 replace H := Option.bind_eq_some_iff.mp H
 obtain ⟨t384, A750, H⟩ := H
 replace H : ((impl_put.f kj46 t384 4 a0_3).bind fun t387 => ((some (([(wrap64 ((wrap64 (Int.tdiv (wrap64 (20 + (x8_46.length : Int))) 4)) * 16)) % 256, (a0_4) % 256] : List Int) : List Int)).bind fun y390 => (if t387.length + y390.length < 140737488355328 then ((impl_put.f kj46 (t387 ++ y390) 2 a0_5).bind fun t396 => ((some (([0, 0, 0, 0] : List Int) : List Int)).bind fun y399 => (if t396.length + y399.length < 140737488355328 then ((some (t396 ++ y399 : List Int)).bind fun y402 => (if y402.length + x8_46.length < 140737488355328 then ((some (y402 ++ x8_46 : List Int)).bind fun y405 => (if y405.length + l0_11.length < 140737488355328 then ((some (y405 ++ l0_11 : List Int)).bind fun y408 => ((impl_FalseHead.f kj46 a1 a2 6 (y408.length : Int)).bind fun t411 => (if t411.length + y408.length < 140737488355328 then ((impl_Checksum.f kj46 (t411 ++ y408)).bind fun t417 => (if 16 < (y408.length : Int) then (if 17 < (y408.length : Int) then (some (((y408.set (16 : Int).toNat ((t417 / 256) % 256)).set (17 : Int).toNat ((t417) % 256)), 0)) else (none)) else (none))) else (none)))) else (none))) else (none))) else (none)))) else (none)))) = some (r1, r2) := H
 have A75 := Aside0.mk A750
 clear A750
 replace H := Option.bind_eq_some_iff.mp H
 obtain ⟨t387, A760, H⟩ := H
 replace H : ((some (([(wrap64 ((wrap64 (Int.tdiv (wrap64 (20 + (x8_46.length : Int))) 4)) * 16)) % 256, (a0_4) % 256] : List Int) : List Int)).bind fun y390 => (if t387.length + y390.length < 140737488355328 then ((impl_put.f kj46 (t387 ++ y390) 2 a0_5).bind fun t396 => ((some (([0, 0, 0, 0] : List Int) : List Int)).bind fun y399 => (if t396.length + y399.length < 140737488355328 then ((some (t396 ++ y399 : List Int)).bind fun y402 => (if y402.length + x8_46.length < 140737488355328 then ((some (y402 ++ x8_46 : List Int)).bind fun y405 => (if y405.length + l0_11.length < 140737488355328 then ((some (y405 ++ l0_11 : List Int)).bind fun y408 => ((impl_FalseHead.f kj46 a1 a2 6 (y408.length : Int)).bind fun t411 => (if t411.length + y408.length < 140737488355328 then ((impl_Checksum.f kj46 (t411 ++ y408)).bind fun t417 => (if 16 < (y408.length : Int) then (if 17 < (y408.length : Int) then (some (((y408.set (16 : Int).toNat ((t417 / 256) % 256)).set (17 : Int).toNat ((t417) % 256)), 0)) else (none)) else (none))) else (none)))) else (none))) else (none))) else (none)))) else (none))) = some (r1, r2) := H
 have A76 := Aside0.mk A760
 clear A760
 obtain ⟨y390, hy390⟩ : ∃ y_ : List Int, y_ = (([(wrap64 ((wrap64 (Int.tdiv (wrap64 (20 + (x8_46.length : Int))) 4)) * 16)) % 256, (a0_4) % 256] : List Int)) := ⟨_, rfl⟩
 replace H : (if t387.length + y390.length < 140737488355328 then ((impl_put.f kj46 (t387 ++ y390) 2 a0_5).bind fun t396 => ((some (([0, 0, 0, 0] : List Int) : List Int)).bind fun y399 => (if t396.length + y399.length < 140737488355328 then ((some (t396 ++ y399 : List Int)).bind fun y402 => (if y402.length + x8_46.length < 140737488355328 then ((some (y402 ++ x8_46 : List Int)).bind fun y405 => (if y405.length + l0_11.length < 140737488355328 then ((some (y405 ++ l0_11 : List Int)).bind fun y408 => ((impl_FalseHead.f kj46 a1 a2 6 (y408.length : Int)).bind fun t411 => (if t411.length + y408.length < 140737488355328 then ((impl_Checksum.f kj46 (t411 ++ y408)).bind fun t417 => (if 16 < (y408.length : Int) then (if 17 < (y408.length : Int) then (some (((y408.set (16 : Int).toNat ((t417 / 256) % 256)).set (17 : Int).toNat ((t417) % 256)), 0)) else (none)) else (none))) else (none)))) else (none))) else (none))) else (none)))) else (none)) = some (r1, r2) := by first | (rw [hy390]; with_reducible exact H) | (have H2_ := (Option.bind_some _ _).symm.trans H; rw [hy390]; with_reducible exact H2_) | (have H2_ := (Option.bind_some _ _).symm.trans H; with_reducible exact H2_) | with_reducible exact H | (rw [hy390]; exact H) | exact H
 have Ny390 := Aside0.mk hy390
 clear hy390
 by_cases c77 : t387.length + y390.length < 140737488355328
 {
 rw [if_pos c77] at H
 have LMc77 := Aside0.mk c77
 clear c77
 obtain ⟨y393, hy393⟩ : ∃ y_ : List Int, y_ = (t387 ++ y390) := ⟨_, rfl⟩
 replace H : ((impl_put.f kj46 y393 2 a0_5).bind fun t396 => ((some (([0, 0, 0, 0] : List Int) : List Int)).bind fun y399 => (if t396.length + y399.length < 140737488355328 then ((some (t396 ++ y399 : List Int)).bind fun y402 => (if y402.length + x8_46.length < 140737488355328 then ((some (y402 ++ x8_46 : List Int)).bind fun y405 => (if y405.length + l0_11.length < 140737488355328 then ((some (y405 ++ l0_11 : List Int)).bind fun y408 => ((impl_FalseHead.f kj46 a1 a2 6 (y408.length : Int)).bind fun t411 => (if t411.length + y408.length < 140737488355328 then ((impl_Checksum.f kj46 (t411 ++ y408)).bind fun t417 => (if 16 < (y408.length : Int) then (if 17 < (y408.length : Int) then (some (((y408.set (16 : Int).toNat ((t417 / 256) % 256)).set (17 : Int).toNat ((t417) % 256)), 0)) else (none)) else (none))) else (none)))) else (none))) else (none))) else (none)))) = some (r1, r2) := by first | (rw [hy393]; with_reducible exact H) | (have H2_ := (Option.bind_some _ _).symm.trans H; rw [hy393]; with_reducible exact H2_) | (have H2_ := (Option.bind_some _ _).symm.trans H; with_reducible exact H2_) | with_reducible exact H | (rw [hy393]; exact H) | exact H
 have Ny393 := Aside0.mk hy393
 clear hy393
 replace H := Option.bind_eq_some_iff.mp H
 obtain ⟨t396, A780, H⟩ := H
 replace H : ((some (([0, 0, 0, 0] : List Int) : List Int)).bind fun y399 => (if t396.length + y399.length < 140737488355328 then ((some (t396 ++ y399 : List Int)).bind fun y402 => (if y402.length + x8_46.length < 140737488355328 then ((some (y402 ++ x8_46 : List Int)).bind fun y405 => (if y405.length + l0_11.length < 140737488355328 then ((some (y405 ++ l0_11 : List Int)).bind fun y408 => ((impl_FalseHead.f kj46 a1 a2 6 (y408.length : Int)).bind fun t411 => (if t411.length + y408.length < 140737488355328 then ((impl_Checksum.f kj46 (t411 ++ y408)).bind fun t417 => (if 16 < (y408.length : Int) then (if 17 < (y408.length : Int) then (some (((y408.set (16 : Int).toNat ((t417 / 256) % 256)).set (17 : Int).toNat ((t417) % 256)), 0)) else (none)) else (none))) else (none)))) else (none))) else (none))) else (none))) = some (r1, r2) := H
 have A78 := Aside0.mk A780
 clear A780
 obtain ⟨y399, hy399⟩ : ∃ y_ : List Int, y_ = (([0, 0, 0, 0] : List Int)) := ⟨_, rfl⟩
 replace H : (if t396.length + y399.length < 140737488355328 then ((some (t396 ++ y399 : List Int)).bind fun y402 => (if y402.length + x8_46.length < 140737488355328 then ((some (y402 ++ x8_46 : List Int)).bind fun y405 => (if y405.length + l0_11.length < 140737488355328 then ((some (y405 ++ l0_11 : List Int)).bind fun y408 => ((impl_FalseHead.f kj46 a1 a2 6 (y408.length : Int)).bind fun t411 => (if t411.length + y408.length < 140737488355328 then ((impl_Checksum.f kj46 (t411 ++ y408)).bind fun t417 => (if 16 < (y408.length : Int) then (if 17 < (y408.length : Int) then (some (((y408.set (16 : Int).toNat ((t417 / 256) % 256)).set (17 : Int).toNat ((t417) % 256)), 0)) else (none)) else (none))) else (none)))) else (none))) else (none))) else (none)) = some (r1, r2) := by first | (rw [hy399]; with_reducible exact H) | (have H2_ := (Option.bind_some _ _).symm.trans H; rw [hy399]; with_reducible exact H2_) | (have H2_ := (Option.bind_some _ _).symm.trans H; with_reducible exact H2_) | with_reducible exact H | (rw [hy399]; exact H) | exact H
 have Ny399 := Aside0.mk hy399
 clear hy399
 by_cases c79 : t396.length + y399.length < 140737488355328
 {
 rw [if_pos c79] at H
 have LMc79 := Aside0.mk c79
 clear c79
 obtain ⟨y402, hy402⟩ : ∃ y_ : List Int, y_ = (t396 ++ y399) := ⟨_, rfl⟩
 replace H : (if y402.length + x8_46.length < 140737488355328 then ((some (y402 ++ x8_46 : List Int)).bind fun y405 => (if y405.length + l0_11.length < 140737488355328 then ((some (y405 ++ l0_11 : List Int)).bind fun y408 => ((impl_FalseHead.f kj46 a1 a2 6 (y408.length : Int)).bind fun t411 => (if t411.length + y408.length < 140737488355328 then ((impl_Checksum.f kj46 (t411 ++ y408)).bind fun t417 => (if 16 < (y408.length : Int) then (if 17 < (y408.length : Int) then (some (((y408.set (16 : Int).toNat ((t417 / 256) % 256)).set (17 : Int).toNat ((t417) % 256)), 0)) else (none)) else (none))) else (none)))) else (none))) else (none)) = some (r1, r2) := by first | (rw [hy402]; with_reducible exact H) | (have H2_ := (Option.bind_some _ _).symm.trans H; rw [hy402]; with_reducible exact H2_) | (have H2_ := (Option.bind_some _ _).symm.trans H; with_reducible exact H2_) | with_reducible exact H | (rw [hy402]; exact H) | exact H
 have Ny402 := Aside0.mk hy402
 clear hy402
 by_cases c80 : y402.length + x8_46.length < 140737488355328
 {
 rw [if_pos c80] at H
 have LMc80 := Aside0.mk c80
 clear c80
 obtain ⟨y405, hy405⟩ : ∃ y_ : List Int, y_ = (y402 ++ x8_46) := ⟨_, rfl⟩
 replace H : (if y405.length + l0_11.length < 140737488355328 then ((some (y405 ++ l0_11 : List Int)).bind fun y408 => ((impl_FalseHead.f kj46 a1 a2 6 (y408.length : Int)).bind fun t411 => (if t411.length + y408.length < 140737488355328 then ((impl_Checksum.f kj46 (t411 ++ y408)).bind fun t417 => (if 16 < (y408.length : Int) then (if 17 < (y408.length : Int) then (some (((y408.set (16 : Int).toNat ((t417 / 256) % 256)).set (17 : Int).toNat ((t417) % 256)), 0)) else (none)) else (none))) else (none)))) else (none)) = some (r1, r2) := by first | (rw [hy405]; with_reducible exact H) | (have H2_ := (Option.bind_some _ _).symm.trans H; rw [hy405]; with_reducible exact H2_) | (have H2_ := (Option.bind_some _ _).symm.trans H; with_reducible exact H2_) | with_reducible exact H | (rw [hy405]; exact H) | exact H
 have Ny405 := Aside0.mk hy405
 clear hy405
 by_cases c81 : y405.length + l0_11.length < 140737488355328
 {
 rw [if_pos c81] at H
 have LMc81 := Aside0.mk c81
 clear c81
 obtain ⟨y408, hy408⟩ : ∃ y_ : List Int, y_ = (y405 ++ l0_11) := ⟨_, rfl⟩
 replace H : ((impl_FalseHead.f kj46 a1 a2 6 (y408.length : Int)).bind fun t411 => (if t411.length + y408.length < 140737488355328 then ((impl_Checksum.f kj46 (t411 ++ y408)).bind fun t417 => (if 16 < (y408.length : Int) then (if 17 < (y408.length : Int) then (some (((y408.set (16 : Int).toNat ((t417 / 256) % 256)).set (17 : Int).toNat ((t417) % 256)), 0)) else (none)) else (none))) else (none))) = some (r1, r2) := by first | (rw [hy408]; with_reducible exact H) | (have H2_ := (Option.bind_some _ _).symm.trans H; rw [hy408]; with_reducible exact H2_) | (have H2_ := (Option.bind_some _ _).symm.trans H; with_reducible exact H2_) | with_reducible exact H | (rw [hy408]; exact H) | exact H
 have Ny408 := Aside0.mk hy408
 clear hy408
 replace H := Option.bind_eq_some_iff.mp H
 obtain ⟨t411, A820, H⟩ := H
 replace H : (if t411.length + y408.length < 140737488355328 then ((impl_Checksum.f kj46 (t411 ++ y408)).bind fun t417 => (if 16 < (y408.length : Int) then (if 17 < (y408.length : Int) then (some (((y408.set (16 : Int).toNat ((t417 / 256) % 256)).set (17 : Int).toNat ((t417) % 256)), 0)) else (none)) else (none))) else (none)) = some (r1, r2) := H
 have A82 := Aside0.mk A820
 clear A820
 by_cases c83 : t411.length + y408.length < 140737488355328
 {
 rw [if_pos c83] at H
 have LMc83 := Aside0.mk c83
 clear c83
 obtain ⟨y414, hy414⟩ : ∃ y_ : List Int, y_ = (t411 ++ y408) := ⟨_, rfl⟩
 replace H : ((impl_Checksum.f kj46 y414).bind fun t417 => (if 16 < (y408.length : Int) then (if 17 < (y408.length : Int) then (some (((y408.set (16 : Int).toNat ((t417 / 256) % 256)).set (17 : Int).toNat ((t417) % 256)), 0)) else (none)) else (none))) = some (r1, r2) := by first | (rw [hy414]; with_reducible exact H) | (have H2_ := (Option.bind_some _ _).symm.trans H; rw [hy414]; with_reducible exact H2_) | (have H2_ := (Option.bind_some _ _).symm.trans H; with_reducible exact H2_) | with_reducible exact H | (rw [hy414]; exact H) | exact H
 have Ny414 := Aside0.mk hy414
 clear hy414
 replace H := Option.bind_eq_some_iff.mp H
 obtain ⟨t417, A840, H⟩ := H
 replace H : (if 16 < (y408.length : Int) then (if 17 < (y408.length : Int) then (some (((y408.set (16 : Int).toNat ((t417 / 256) % 256)).set (17 : Int).toNat ((t417) % 256)), 0)) else (none)) else (none)) = some (r1, r2) := H
 have A84 := Aside0.mk A840
 clear A840
 by_cases c85 : 16 < (y408.length : Int)
 {
 rw [if_pos c85] at H
 have c85b0 : decide (16 < (y408.length : Int)) = true := decide_eq_true c85
 have c85b1 : decide (16 < y408.length) = true := decide_eq_true (by omega)
 clear c85
 obtain ⟨y418, hy418⟩ : ∃ y_ : List Int, y_ = (y408.set (16 : Int).toNat ((t417 / 256) % 256)) := ⟨_, rfl⟩
 replace H : (if 17 < (y408.length : Int) then (some ((y418.set (17 : Int).toNat ((t417) % 256)), 0)) else (none)) = some (r1, r2) := by first | (rw [hy418]; with_reducible exact H) | (have H2_ := (Option.bind_some _ _).symm.trans H; rw [hy418]; with_reducible exact H2_) | (have H2_ := (Option.bind_some _ _).symm.trans H; with_reducible exact H2_) | with_reducible exact H | (rw [hy418]; exact H) | exact H
 have Ny418 := Aside0.mk hy418
 clear hy418
 by_cases c87 : 17 < (y408.length : Int)
 {
 rw [if_pos c87] at H
 have c87b0 : decide (17 < (y408.length : Int)) = true := decide_eq_true c87
 have c87b1 : decide (17 < y408.length) = true := decide_eq_true (by omega)
 clear c87
 obtain ⟨y419, hy419⟩ : ∃ y_ : List Int, y_ = (y418.set (17 : Int).toNat ((t417) % 256)) := ⟨_, rfl⟩
 replace H : (some (y419, 0)) = some (r1, r2) := by first | (rw [hy419]; with_reducible exact H) | (have H2_ := (Option.bind_some _ _).symm.trans H; rw [hy419]; with_reducible exact H2_) | (have H2_ := (Option.bind_some _ _).symm.trans H; with_reducible exact H2_) | with_reducible exact H | (rw [hy419]; exact H) | exact H
 have Ny419 := Aside0.mk hy419
 clear hy419
 simp only [Option.some.injEq, Prod.mk.injEq] at H
 obtain ⟨rfl, rfl⟩ := H
 obtain ⟨Ao89, co89, eo89⟩ := Kd.R_slice HO_8.out
 subst eo89
 obtain ⟨⟨hcz90_0, hcz90_1, hcz90_2, hcz90_3, hcz90_4, hcz90_5, hcz90_6, hcz90_7, hcz90_8, hcz90_9, hcz90_10, hcz90_11⟩, hfz90_0, hfz90_1, hfz90_2, hfz90_3, hfz90_4, hfz90_5, hfz90_6, hfz90_7, hfz90_8, hfz90_9, hfz90_10, hfz90_11⟩ := cells12 BK339.out
 try go_wp2
 have n0_ := Aside0.mk (Kd.R_drew HO_8.out)
 have n1_ := Aside0.mk (blk_drew BK339.out)
 have n2_ := Aside0.mk (below_drew1 HB.out)
 clear HO_8
 clear BK339
 clear HB
 have HO_8 := n0_
 have BK339 := n1_
 have HB := n2_
 clear n0_ n1_ n2_
 refine start_ (n := 13) (S := fun w' => w'.cell? ⟨gb339, 0, none⟩ = some (.int .i64 a0_0) ∧ w'.cell? ⟨gb339, 1, none⟩ = some (.int .i64 a0_1) ∧ w'.cell? ⟨gb339, 2, none⟩ = some (.int .i64 a0_2) ∧ w'.cell? ⟨gb339, 3, none⟩ = some (.int .i64 a0_3) ∧ w'.cell? ⟨gb339, 4, none⟩ = some (.int .i64 a0_4) ∧ w'.cell? ⟨gb339, 5, none⟩ = some (.int .i64 a0_5) ∧ w'.cell? ⟨gb339, 6, none⟩ = some (.int .i64 a0_6) ∧ w'.cell? ⟨gb339, 7, none⟩ = some (.bool a0_7) ∧ w'.cell? ⟨gb339, 8, none⟩ = some (.int .i64 a0_8) ∧ w'.cell? ⟨gb339, 9, none⟩ = some (.bool a0_9) ∧ w'.cell? ⟨gb339, 10, none⟩ = some (.slice A0_10 l0_10.length c0_10) ∧ w'.cell? ⟨gb339, 11, none⟩ = some (.slice A0_11 l0_11.length c0_11)) (ds := []) #[false, false, false, false, false, false, false, false, false, false, false, false, false] (by kernel_rfl) rfl rfl ⟨(blk_cell BK339.out 0).trans rfl, (blk_cell BK339.out 1).trans rfl, (blk_cell BK339.out 2).trans rfl, (blk_cell BK339.out 3).trans rfl, (blk_cell BK339.out 4).trans rfl, (blk_cell BK339.out 5).trans rfl, (blk_cell BK339.out 6).trans rfl, (blk_cell BK339.out 7).trans rfl, (blk_cell BK339.out 8).trans rfl, (blk_cell BK339.out 9).trans rfl, (blk_cell BK339.out 10).trans rfl, (blk_cell BK339.out 11).trans rfl⟩ (fun hHeld => ?_); refine with_tabW impl_EncodeSegment.tab21 impl_EncodeSegment.bits21 (fun HT_ HW_ => ?_)
 generalize wc.drew = w91 at HO_8 BK339 HB hHeld ⊢
 refine pure_ (i := 0) (N := some 86) (v := ?_) (a' := ?_) #[true, false, false, false, false, false, false, false, false, false, false, false, false] rfl rfl (any_of HT_.out (by kernel_rfl)) (fun _ _ _ h => h) (Or.inl ⟨by rfl, ?_⟩) ?_ ?_
 rotate_left
 {
 intro w'
 go_simp
 with_reducible rfl
 }
 rotate_left
 {
 simp only [Act.put, List.setIfInBounds_toArray, List.set_cons_zero, List.set_cons_succ, i64_w, i32_w]
 rfl
 }
 refine pure_ (i := 3) (N := some 89) (v := ?_) (a' := ?_) #[true, false, false, true, false, false, false, false, false, false, false, false, false] rfl rfl (any_of HT_.out (by kernel_rfl)) (fun _ _ _ h => h) (Or.inl ⟨by rfl, ?_⟩) ?_ ?_
 rotate_left
 {
 intro w'
 go_simp
 with_reducible rfl
 }
 rotate_left
 {
 simp only [Act.put, List.setIfInBounds_toArray, List.set_cons_zero, List.set_cons_succ, i64_w, i32_w]
 rfl
 }
 refine pure_ (i := 6) (N := some 92) (v := ?_) (a' := ?_) #[true, false, false, true, false, false, true, false, false, false, false, false, false] rfl rfl (any_of HT_.out (by kernel_rfl)) (fun _ _ _ h => h) (Or.inl ⟨by rfl, ?_⟩) ?_ ?_
 rotate_left
 {
 intro w'
 go_simp
 with_reducible rfl
 }
 rotate_left
 {
 simp only [Act.put, List.setIfInBounds_toArray, List.set_cons_zero, List.set_cons_succ, i64_w, i32_w]
 rfl
 }
 refine pure_ (i := 9) (N := some 95) (v := ?_) (a' := ?_) #[true, false, false, true, false, false, true, false, false, true, false, false, false] rfl rfl (any_of HT_.out (by kernel_rfl)) (fun _ _ _ h => h) (Or.inl ⟨by rfl, ?_⟩) ?_ ?_
 rotate_left
 {
 intro w'
 go_simp
 with_reducible rfl
 }
 rotate_left
 {
 simp only [Act.put, List.setIfInBounds_toArray, List.set_cons_zero, List.set_cons_succ, i64_w, i32_w]
 rfl
 }
 refine take_ (i := 1) (N := some 87) (v := ?_) (a' := ?_) #[true, true, false, true, false, false, true, false, false, true, false, false, false] rfl rfl (take_ofW HT_.out HW_.out (by kernel_rfl)) (fun _ _ _ h => h) (Or.inl ⟨by rfl, ?_⟩) hHeld ?_ ?_
 rotate_left
 {
 rintro w' ⟨s0, s1, s2, s3, s4, s5, s6, s7, s8, s9, s10, s11⟩
 go_simp
 with_reducible rfl
 }
 rotate_left
 {
 simp only [Act.put, List.setIfInBounds_toArray, List.set_cons_zero, List.set_cons_succ, i64_w, i32_w]
 rfl
 }
 refine take_ (i := 4) (N := some 90) (v := ?_) (a' := ?_) #[true, true, false, true, true, false, true, false, false, true, false, false, false] rfl rfl (take_ofW HT_.out HW_.out (by kernel_rfl)) (fun _ _ _ h => h) (Or.inl ⟨by rfl, ?_⟩) hHeld ?_ ?_
 rotate_left
 {
 rintro w' ⟨s0, s1, s2, s3, s4, s5, s6, s7, s8, s9, s10, s11⟩
 go_simp
 with_reducible rfl
 }
 rotate_left
 {
 simp only [Act.put, List.setIfInBounds_toArray, List.set_cons_zero, List.set_cons_succ, i64_w, i32_w]
 rfl
 }
 refine take_ (i := 7) (N := some 93) (v := ?_) (a' := ?_) #[true, true, false, true, true, false, true, true, false, true, false, false, false] rfl rfl (take_ofW HT_.out HW_.out (by kernel_rfl)) (fun _ _ _ h => h) (Or.inl ⟨by rfl, ?_⟩) hHeld ?_ ?_
 rotate_left
 {
 rintro w' ⟨s0, s1, s2, s3, s4, s5, s6, s7, s8, s9, s10, s11⟩
 go_simp
 with_reducible rfl
 }
 rotate_left
 {
 simp only [Act.put, List.setIfInBounds_toArray, List.set_cons_zero, List.set_cons_succ, i64_w, i32_w]
 rfl
 }
 refine take_ (i := 10) (N := some 96) (v := ?_) (a' := ?_) #[true, true, false, true, true, false, true, true, false, true, true, false, false] rfl rfl (take_ofW HT_.out HW_.out (by kernel_rfl)) (fun _ _ _ h => h) (Or.inl ⟨by rfl, ?_⟩) hHeld ?_ ?_
 rotate_left
 {
 rintro w' ⟨s0, s1, s2, s3, s4, s5, s6, s7, s8, s9, s10, s11⟩
 go_simp
 with_reducible rfl
 }
 rotate_left
 {
 simp only [Act.put, List.setIfInBounds_toArray, List.set_cons_zero, List.set_cons_succ, i64_w, i32_w]
 rfl
 }
 refine one_ (i := 2) (N := some 88) #[true, true, true, true, true, false, true, true, false, true, true, false, false] rfl rfl (one_of HT_.out (by kernel_rfl)) (by decide) (fun K hK => ?_)
 refine goes_ Try.func127 (by kernel_rfl) rfl #[.slice none 0 0, .int .i64 2, .int .i64 a0_0] (by rfl) rfl rfl wT ?_
 refine (impl_put.calls kj46 (fun k_ => some k_ = (.slice none 0 0 : Value).ownBlock) (.slice none 0 0) ([] : List Int) 2 a0_0 t378 w _ ?side1 ?side2 A73.out).mono ?_
 (case side1 => repeat (first | (with_reducible first | exact HB.out | apply below_alloc | apply pw_below_drewN | apply below_drew1 | refine below_set ?_ GE339.out) | exact HB.out))
 (case side2 => exact Kd.R_nil _ _ _ _ _)
 rintro e w92 ⟨v379, rfl, ho0, hb, hkp⟩
 refine ⟨_, rfl, ?_⟩
 have n0_ := Aside0.mk (Kd.R_mono (ok' := fun k_ => some k_ ≠ (v379 : Value).ownBlock) (Kd.R_keptB (HO_8.out) hkp (fun k_ hk_ hs_ => (fun e_ => by simp [Value.ownBlock] at e_) hs_)) (fun k_ hk_ => fun e_ => Or.elim (ho0.1 k_ e_.symm) (fun hs_ => hk_.2.1 hs_) (fun hn_ => Nat.not_le.2 hk_.2.2 hn_)))
 have n1_ := Aside0.mk (blk_kept (Bh BK339) hkp (fun hs_ => (fun e_ => by simp [Value.ownBlock] at e_) hs_))
 have n2_ := Aside0.mk (Kd.R_mono (ok' := fun k_ => some k_ ≠ (.slice Ao89 x8_46.length co89 : Value).ownBlock) ho0 (fun k_ hk_ => Or.elim hk_ (fun hs_ => absurd hs_ (by simp [Value.ownBlock])) (fun hn_ => (Kd.fresh' (Kd.R_lt (Rh HO_8)) k_ hn_))))
 have n3_ := Aside0.mk (hb)
 clear HO_8
 clear BK339
 clear HB
 have HO_8 := n0_
 have BK339 := n1_
 have HO380 := n2_
 have HB := n3_
 clear n0_ n1_ n2_ n3_
 (try clear hb)
 (try clear hkp)
 (try clear ho0)
 obtain ⟨Ao93, co93, eo93⟩ := Kd.R_slice HO380.out
 (first | subst eo93 | (injection eo93 with f1_ f2_ f3_; have f4_ := f1_.symm; have f5_ := f3_.symm; clear f1_ f2_ f3_; subst f4_; subst f5_))
 refine hK.out _ _ ⟨(blk_cell BK339.out 0).trans rfl, (blk_cell BK339.out 1).trans rfl, (blk_cell BK339.out 2).trans rfl, (blk_cell BK339.out 3).trans rfl, (blk_cell BK339.out 4).trans rfl, (blk_cell BK339.out 5).trans rfl, (blk_cell BK339.out 6).trans rfl, (blk_cell BK339.out 7).trans rfl, (blk_cell BK339.out 8).trans rfl, (blk_cell BK339.out 9).trans rfl, (blk_cell BK339.out 10).trans rfl, (blk_cell BK339.out 11).trans rfl⟩ (fun hHeld => ?_)
 clear hK K
 refine norm_ (a' := ?_) ?_ ?_
 rotate_left
 {
 show Act.put _ (some 88) _ = _
 simp only [Act.put, List.setIfInBounds_toArray, List.set_cons_zero, List.set_cons_succ, i64_w, i32_w]
 rfl
 }
 refine one_ (i := 5) (N := some 91) #[true, true, true, true, true, true, true, true, false, true, true, false, false] rfl rfl (one_of HT_.out (by kernel_rfl)) (by decide) (fun K hK => ?_)
 refine goes_ Try.func127 (by kernel_rfl) rfl #[.slice Ao93 t378.length co93, .int .i64 2, .int .i64 a0_1] (by rfl) rfl rfl wT ?_
 with_reducible refine (impl_put.calls kj46 (fun k_ => some k_ = (.slice Ao93 t378.length co93 : Value).ownBlock) (.slice Ao93 t378.length co93) t378 2 a0_1 t381 w _ ?side1 ?side2 A74.out).mono ?_
 (case side1 => repeat (first | (with_reducible first | exact HB.out | apply below_alloc | apply pw_below_drewN | apply below_drew1 | refine below_set ?_ GE339.out) | exact HB.out))
 (case side2 => exact Kd.R_tight rfl HO380.out)
 rintro e w94 ⟨v382, rfl, ho0, hb, hkp⟩
 refine ⟨_, rfl, ?_⟩
 have n0_ := Aside0.mk (Kd.R_mono (ok' := fun k_ => some k_ ≠ (v382 : Value).ownBlock) (Kd.R_keptB (HO_8.out) hkp (fun k_ hk_ hs_ => (hk_) hs_)) (fun k_ hk_ => fun e_ => Or.elim (ho0.1 k_ e_.symm) (fun hs_ => hk_.2.1 hs_) (fun hn_ => Nat.not_le.2 hk_.2.2 hn_)))
 have n1_ := Aside0.mk (blk_kept (Bh BK339) hkp (fun hs_ => (fun e_ => (Kd.R_ne HO380.out BK339.out (by decide)) e_) hs_))
 have n2_ := Aside0.mk (Kd.R_mono (ok' := fun k_ => some k_ ≠ (.slice Ao89 x8_46.length co89 : Value).ownBlock) ho0 (fun k_ hk_ => Or.elim hk_ (fun hs_ => fun e_ => (((HO_8.out).1 k_ e_.symm)) hs_) (fun hn_ => (Kd.fresh' (Kd.R_lt (Rh HO_8)) k_ hn_))))
 have n3_ := Aside0.mk (hb)
 clear HO_8
 clear BK339
 clear HB
 clear HO380
 have HO_8 := n0_
 have BK339 := n1_
 have HO383 := n2_
 have HB := n3_
 clear n0_ n1_ n2_ n3_
 (try clear hb)
 (try clear hkp)
 (try clear ho0)
 obtain ⟨Ao95, co95, eo95⟩ := Kd.R_slice HO383.out
 (first | subst eo95 | (injection eo95 with f1_ f2_ f3_; have f4_ := f1_.symm; have f5_ := f3_.symm; clear f1_ f2_ f3_; subst f4_; subst f5_))
 refine hK.out _ _ ⟨(blk_cell BK339.out 0).trans rfl, (blk_cell BK339.out 1).trans rfl, (blk_cell BK339.out 2).trans rfl, (blk_cell BK339.out 3).trans rfl, (blk_cell BK339.out 4).trans rfl, (blk_cell BK339.out 5).trans rfl, (blk_cell BK339.out 6).trans rfl, (blk_cell BK339.out 7).trans rfl, (blk_cell BK339.out 8).trans rfl, (blk_cell BK339.out 9).trans rfl, (blk_cell BK339.out 10).trans rfl, (blk_cell BK339.out 11).trans rfl⟩ (fun hHeld => ?_)
 clear hK K
 refine norm_ (a' := ?_) ?_ ?_
 rotate_left
 {
 show Act.put _ (some 91) _ = _
 simp only [Act.put, List.setIfInBounds_toArray, List.set_cons_zero, List.set_cons_succ, i64_w, i32_w]
 rfl
 }
 refine one_ (i := 8) (N := some 94) #[true, true, true, true, true, true, true, true, true, true, true, false, false] rfl rfl (one_of HT_.out (by kernel_rfl)) (by decide) (fun K hK => ?_)
 refine goes_ Try.func127 (by kernel_rfl) rfl #[.slice Ao95 t381.length co95, .int .i64 4, .int .i64 a0_2] (by rfl) rfl rfl wT ?_
 with_reducible refine (impl_put.calls kj46 (fun k_ => some k_ = (.slice Ao95 t381.length co95 : Value).ownBlock) (.slice Ao95 t381.length co95) t381 4 a0_2 t384 w _ ?side1 ?side2 A75.out).mono ?_
 (case side1 => repeat (first | (with_reducible first | exact HB.out | apply below_alloc | apply pw_below_drewN | apply below_drew1 | refine below_set ?_ GE339.out) | exact HB.out))
 (case side2 => exact Kd.R_tight rfl HO383.out)
 rintro e w96 ⟨v385, rfl, ho0, hb, hkp⟩
 refine ⟨_, rfl, ?_⟩
 have n0_ := Aside0.mk (Kd.R_mono (ok' := fun k_ => some k_ ≠ (v385 : Value).ownBlock) (Kd.R_keptB (HO_8.out) hkp (fun k_ hk_ hs_ => (hk_) hs_)) (fun k_ hk_ => fun e_ => Or.elim (ho0.1 k_ e_.symm) (fun hs_ => hk_.2.1 hs_) (fun hn_ => Nat.not_le.2 hk_.2.2 hn_)))
 have n1_ := Aside0.mk (blk_kept (Bh BK339) hkp (fun hs_ => (fun e_ => (Kd.R_ne HO383.out BK339.out (by decide)) e_) hs_))
 have n2_ := Aside0.mk (Kd.R_mono (ok' := fun k_ => some k_ ≠ (.slice Ao89 x8_46.length co89 : Value).ownBlock) ho0 (fun k_ hk_ => Or.elim hk_ (fun hs_ => fun e_ => (((HO_8.out).1 k_ e_.symm)) hs_) (fun hn_ => (Kd.fresh' (Kd.R_lt (Rh HO_8)) k_ hn_))))
 have n3_ := Aside0.mk (hb)
 clear HO_8
 clear BK339
 clear HB
 clear HO383
 have HO_8 := n0_
 have BK339 := n1_
 have HO386 := n2_
 have HB := n3_
 clear n0_ n1_ n2_ n3_
 (try clear hb)
 (try clear hkp)
 (try clear ho0)
 obtain ⟨Ao97, co97, eo97⟩ := Kd.R_slice HO386.out
 (first | subst eo97 | (injection eo97 with f1_ f2_ f3_; have f4_ := f1_.symm; have f5_ := f3_.symm; clear f1_ f2_ f3_; subst f4_; subst f5_))
 refine hK.out _ _ ⟨(blk_cell BK339.out 0).trans rfl, (blk_cell BK339.out 1).trans rfl, (blk_cell BK339.out 2).trans rfl, (blk_cell BK339.out 3).trans rfl, (blk_cell BK339.out 4).trans rfl, (blk_cell BK339.out 5).trans rfl, (blk_cell BK339.out 6).trans rfl, (blk_cell BK339.out 7).trans rfl, (blk_cell BK339.out 8).trans rfl, (blk_cell BK339.out 9).trans rfl, (blk_cell BK339.out 10).trans rfl, (blk_cell BK339.out 11).trans rfl⟩ (fun hHeld => ?_)
 clear hK K
 refine norm_ (a' := ?_) ?_ ?_
 rotate_left
 {
 show Act.put _ (some 94) _ = _
 simp only [Act.put, List.setIfInBounds_toArray, List.set_cons_zero, List.set_cons_succ, i64_w, i32_w]
 rfl
 }
 refine one_ (i := 11) (N := some 97) #[true, true, true, true, true, true, true, true, true, true, true, true, false] rfl rfl (one_of HT_.out (by kernel_rfl)) (by decide) (fun K hK => ?_)
 refine goes_ Try.func127 (by kernel_rfl) rfl #[.slice Ao97 t384.length co97, .int .i64 4, .int .i64 a0_3] (by rfl) rfl rfl wT ?_
 with_reducible refine (impl_put.calls kj46 (fun k_ => some k_ = (.slice Ao97 t384.length co97 : Value).ownBlock) (.slice Ao97 t384.length co97) t384 4 a0_3 t387 w _ ?side1 ?side2 A76.out).mono ?_
 (case side1 => repeat (first | (with_reducible first | exact HB.out | apply below_alloc | apply pw_below_drewN | apply below_drew1 | refine below_set ?_ GE339.out) | exact HB.out))
 (case side2 => exact Kd.R_tight rfl HO386.out)
 rintro e w98 ⟨v388, rfl, ho0, hb, hkp⟩
 refine ⟨_, rfl, ?_⟩
 have n0_ := Aside0.mk (Kd.R_mono (ok' := fun k_ => some k_ ≠ (v388 : Value).ownBlock) (Kd.R_keptB (HO_8.out) hkp (fun k_ hk_ hs_ => (hk_) hs_)) (fun k_ hk_ => fun e_ => Or.elim (ho0.1 k_ e_.symm) (fun hs_ => hk_.2.1 hs_) (fun hn_ => Nat.not_le.2 hk_.2.2 hn_)))
 have n1_ := Aside0.mk (blk_kept (Bh BK339) hkp (fun hs_ => (fun e_ => (Kd.R_ne HO386.out BK339.out (by decide)) e_) hs_))
 have n2_ := Aside0.mk (Kd.R_mono (ok' := fun k_ => some k_ ≠ (.slice Ao89 x8_46.length co89 : Value).ownBlock) ho0 (fun k_ hk_ => Or.elim hk_ (fun hs_ => fun e_ => (((HO_8.out).1 k_ e_.symm)) hs_) (fun hn_ => (Kd.fresh' (Kd.R_lt (Rh HO_8)) k_ hn_))))
 have n3_ := Aside0.mk (hb)
 clear HO_8
 clear BK339
 clear HB
 clear HO386
 have HO_8 := n0_
 have BK339 := n1_
 have HO389 := n2_
 have HB := n3_
 clear n0_ n1_ n2_ n3_
 (try clear hb)
 (try clear hkp)
 (try clear ho0)
 refine hK.out _ _ ⟨(blk_cell BK339.out 0).trans rfl, (blk_cell BK339.out 1).trans rfl, (blk_cell BK339.out 2).trans rfl, (blk_cell BK339.out 3).trans rfl, (blk_cell BK339.out 4).trans rfl, (blk_cell BK339.out 5).trans rfl, (blk_cell BK339.out 6).trans rfl, (blk_cell BK339.out 7).trans rfl, (blk_cell BK339.out 8).trans rfl, (blk_cell BK339.out 9).trans rfl, (blk_cell BK339.out 10).trans rfl, (blk_cell BK339.out 11).trans rfl⟩ (fun hHeld => ?_)
 clear hK K
 refine norm_ (a' := ?_) ?_ ?_
 rotate_left
 {
 show Act.put _ (some 97) _ = _
 simp only [Act.put, List.setIfInBounds_toArray, List.set_cons_zero, List.set_cons_succ, i64_w, i32_w]
 rfl
 }
 refine pure_ (i := 12) (N := some 13) (v := ?_) (a' := ?_) #[true, true, true, true, true, true, true, true, true, true, true, true, true] rfl rfl (any_of HT_.out (by kernel_rfl)) (fun _ _ _ h => h) (Or.inl ⟨by rfl, ?_⟩) ?_ ?_
 rotate_left
 {
 intro w'
 go_simp
 with_reducible rfl
 }
 rotate_left
 {
 simp only [Act.put, List.setIfInBounds_toArray, List.set_cons_zero, List.set_cons_succ, i64_w, i32_w]
 rfl
 }
 refine done_ (done_of HT_.out (by kernel_rfl)) ?_
 obtain ⟨⟨hcz99_0, hcz99_1, hcz99_2, hcz99_3, hcz99_4, hcz99_5, hcz99_6, hcz99_7, hcz99_8, hcz99_9, hcz99_10, hcz99_11⟩, hfz99_0, hfz99_1, hfz99_2, hfz99_3, hfz99_4, hfz99_5, hfz99_6, hfz99_7, hfz99_8, hfz99_9, hfz99_10, hfz99_11⟩ := cells12 BK339.out
 try go_wp2_with (first | ((with_reducible refine gate_dst (N := 106) rfl ?_); refine Kd.R_lit (Kd.int .u8) _ 5 ?hg (N := 106) ?hd (xs := ([(wrap64 ((wrap64 (Int.tdiv (wrap64 (20 + (x8_46.length : Int))) 4)) * 16)) % 256, (a0_4) % 256] : List Int)) (inner := [.int .u8 ((wrap64 ((wrap64 (Int.tdiv (wrap64 (20 + (x8_46.length : Int))) 4)) * 16)) % 256), .int .u8 ((a0_4) % 256)]) (ok := fun _ => True) (okp := fun _ => True) ?hr ?hp (fun _ hk => hk) trivial (Below.refl _ _) (Nat.le_refl _) (by simp) ?_; (case hd => rfl); (case hg => rfl); (case hr => first | (go_simp; done) | (go_simp; rfl)); (case hp => exact (Reps.one (show Kd.M (Kd.int .u8) _ _ _ ((wrap64 ((wrap64 (Int.tdiv (wrap64 (20 + (x8_46.length : Int))) 4)) * 16)) % 256) [.int .u8 ((wrap64 ((wrap64 (Int.tdiv (wrap64 (20 + (x8_46.length : Int))) 4)) * 16)) % 256)] from rfl) (Reps.one (show Kd.M (Kd.int .u8) _ _ _ ((a0_4) % 256) [.int .u8 ((a0_4) % 256)] from rfl) (Reps.none _ _)))); intro v391 w100 ho101 hb hg_ hnew_; clear hg_ hnew_; (first | rw [← Ny390.out] at ho101 | (simp only [Int.reduceToNat] at ho101; rw [← Ny390.out] at ho101)); have n0_ := Aside0.mk (Kd.R_elder' (Rh HO_8) (Kd.R_base ho101) hb); have n1_ := Aside0.mk (Kd.R_elder' (Rh HO389) (Kd.R_base ho101) hb); have n2_ := Aside0.mk (Kd.R_lower (Kd.R_new' (Kd.R_new' ho101 (Kd.R_lt (Rh HO_8))) (Kd.R_lt (Rh HO389))) (below_size wB)); have n3_ := Aside0.mk (blk_below (Bh BK339) hb); have n4_ := Aside0.mk (below_step wB hb); clear HO_8; clear HO389; clear BK339; clear HB; have HO_8 := n0_; have HO389 := n1_; have HO392 := n2_; have BK339 := n3_; have HB := n4_; clear n0_ n1_ n2_ n3_ n4_; clear hb ho101; obtain ⟨Ao103, co103, eo103⟩ := Kd.R_slice HO392.out; subst eo103) | ((with_reducible refine gate_builtin (b := .append) (xs := #[.tmp 98, .tmp 106]) rfl ?_); at_builtin; refine Kd.R_append_rows (Kd.int .u8) (w0 := w) w.heap.size rfl (.tmp 98) (.tmp 106) 22 5 (.int .u8 0) 1 rfl Try.underlying22 info5 rfl (by decide) (by omega) v388 t387 y390 _ _ _ (fun k_ => some k_ ≠ (.slice Ao89 x8_46.length co89 : Value).ownBlock ∧ some k_ ≠ (.slice Ao103 y390.length co103 : Value).ownBlock) (fun _ => False) rfl rfl ?aO ?aR (fun _ _ h => h) (fun _ h => h.elim) ?aF ?aB ?aS ?aL ?_; (case aR => exact Ch HO392); (case aB => exact wB); (case aF => exact (fun k_ hk => ⟨Kd.fresh' (Kd.R_lt (Rh HO_8)) k_ hk, Kd.fresh' (Kd.R_lt (Rh HO392)) k_ hk⟩)); (case aO => exact (Rh HO389)); (case aS => exact (below_size wB)); (case aL => have := LMc77.out; omega); intro v394 w102 ho hb hg hat; rw [← Ny393.out] at ho; have n0_ := Aside0.mk (Kd.R_after (ok := (fun k_ => some k_ ≠ (.slice Ao103 y390.length co103 : Value).ownBlock)) (Kd.R_mono (Rh HO_8) (fun _ hk => ⟨hk.2, hk.1⟩)) hg hat); have n1_ := Aside0.mk (blk_grown (Bh BK339) hg (Kd.R_ne HO389.out BK339.out (by decide))); have n2_ := Aside0.mk (Kd.R_after (ok := (fun k_ => some k_ ≠ (.slice Ao89 x8_46.length co89 : Value).ownBlock)) (Kd.R_mono (Rh HO392) (fun _ hk => ⟨hk.1.2, hk.2⟩)) hg hat); have n3_ := Aside0.mk (hb); have n4_ := Aside0.mk (ho); clear HO_8; clear BK339; clear HO392; clear HB; clear HO389; have HO_8 := n0_; have BK339 := n1_; have HO392 := n2_; have HB := n3_; have HO395 := n4_; clear n0_ n1_ n2_ n3_ n4_; clear ho hb hg hat; obtain ⟨⟨hcz104_0, hcz104_1, hcz104_2, hcz104_3, hcz104_4, hcz104_5, hcz104_6, hcz104_7, hcz104_8, hcz104_9, hcz104_10, hcz104_11⟩, hfz104_0, hfz104_1, hfz104_2, hfz104_3, hfz104_4, hfz104_5, hfz104_6, hfz104_7, hfz104_8, hfz104_9, hfz104_10, hfz104_11⟩ := cells12 BK339.out; obtain ⟨Ao105, co105, eo105⟩ := Kd.R_slice HO395.out; subst eo105) | ((with_reducible refine gate_callee (f := 127) rfl ?_); refine goesL_ (some 111) rfl rfl Try.func127 (by kernel_rfl) rfl #[.slice Ao105 y393.length co105, .int .i64 2, .int .i64 a0_5] rfl wT ?_; (with_reducible refine (impl_put.calls kj46 (fun k_ => some k_ = (.slice Ao105 y393.length co105 : Value).ownBlock) (.slice Ao105 y393.length co105) y393 2 a0_5 t396 w _ ?side1 ?side2 A78.out).mono ?_); (case side1 => repeat (first | (with_reducible first | exact HB.out | apply below_alloc | apply pw_below_drewN | apply below_drew1 | refine below_set ?_ GE339.out) | exact HB.out)); (case side2 => exact Kd.R_tight rfl HO395.out); rintro e w106 ⟨v397, rfl, ho0, hb, hkp⟩; refine ⟨_, rfl, ?_⟩; have n0_ := Aside0.mk (Kd.R_mono (ok' := fun k_ => some k_ ≠ (.slice Ao103 y390.length co103 : Value).ownBlock ∧ some k_ ≠ (v397 : Value).ownBlock) (Kd.R_keptB (HO_8.out) hkp (fun k_ hk_ hs_ => (hk_.2) hs_)) (fun k_ hk_ => ⟨hk_.1.1, fun e_ => Or.elim (ho0.1 k_ e_.symm) (fun hs_ => hk_.2.1 hs_) (fun hn_ => Nat.not_le.2 hk_.2.2 hn_)⟩)); have n1_ := Aside0.mk (blk_kept (Bh BK339) hkp (fun hs_ => (fun e_ => (Kd.R_ne HO395.out BK339.out (by decide)) e_) hs_)); have n2_ := Aside0.mk (Kd.R_mono (ok' := fun k_ => some k_ ≠ (.slice Ao89 x8_46.length co89 : Value).ownBlock ∧ some k_ ≠ (v397 : Value).ownBlock) (Kd.R_keptB (HO392.out) hkp (fun k_ hk_ hs_ => (hk_.2) hs_)) (fun k_ hk_ => ⟨hk_.1.1, fun e_ => Or.elim (ho0.1 k_ e_.symm) (fun hs_ => hk_.2.1 hs_) (fun hn_ => Nat.not_le.2 hk_.2.2 hn_)⟩)); have n3_ := Aside0.mk (Kd.R_mono (ok' := fun k_ => some k_ ≠ (.slice Ao89 x8_46.length co89 : Value).ownBlock ∧ some k_ ≠ (.slice Ao103 y390.length co103 : Value).ownBlock) ho0 (fun k_ hk_ => ⟨Or.elim hk_ (fun hs_ => fun e_ => (((HO_8.out).1 k_ e_.symm).2) hs_) (fun hn_ => (Kd.fresh' (Kd.R_lt (Rh HO_8)) k_ hn_)), Or.elim hk_ (fun hs_ => fun e_ => (((HO392.out).1 k_ e_.symm).2) hs_) (fun hn_ => (Kd.fresh' (Kd.R_lt (Rh HO392)) k_ hn_))⟩)); have n4_ := Aside0.mk (hb); clear HO_8; clear BK339; clear HO392; clear HB; clear HO395; have HO_8 := n0_; have BK339 := n1_; have HO392 := n2_; have HO398 := n3_; have HB := n4_; clear n0_ n1_ n2_ n3_ n4_; (try clear hb); (try clear hkp); (try clear ho0)) | ((with_reducible refine gate_dst (N := 112) rfl ?_); refine Kd.R_lit (Kd.int .u8) _ 5 ?hg (N := 112) ?hd (xs := ([0, 0, 0, 0] : List Int)) (inner := [.int .u8 0, .int .u8 0, .int .u8 0, .int .u8 0]) (ok := fun _ => True) (okp := fun _ => True) ?hr ?hp (fun _ hk => hk) trivial (Below.refl _ _) (Nat.le_refl _) (by simp) ?_; (case hd => rfl); (case hg => rfl); (case hr => first | (go_simp; done) | (go_simp; rfl)); (case hp => exact (Reps.one (show Kd.M (Kd.int .u8) _ _ _ 0 [.int .u8 0] from rfl) (Reps.one (show Kd.M (Kd.int .u8) _ _ _ 0 [.int .u8 0] from rfl) (Reps.one (show Kd.M (Kd.int .u8) _ _ _ 0 [.int .u8 0] from rfl) (Reps.one (show Kd.M (Kd.int .u8) _ _ _ 0 [.int .u8 0] from rfl) (Reps.none _ _)))))); intro v400 w107 ho108 hb hg_ hnew_; clear hg_ hnew_; (first | rw [← Ny399.out] at ho108 | (simp only [Int.reduceToNat] at ho108; rw [← Ny399.out] at ho108)); have n0_ := Aside0.mk (Kd.R_elder' (Rh HO_8) (Kd.R_base ho108) hb); have n1_ := Aside0.mk (Kd.R_elder' (Rh HO392) (Kd.R_base ho108) hb); have n2_ := Aside0.mk (Kd.R_elder' (Rh HO398) (Kd.R_base ho108) hb); have n3_ := Aside0.mk (Kd.R_lower (Kd.R_new' (Kd.R_new' (Kd.R_new' ho108 (Kd.R_lt (Rh HO_8))) (Kd.R_lt (Rh HO392))) (Kd.R_lt (Rh HO398))) (below_size wB)); have n4_ := Aside0.mk (blk_below (Bh BK339) hb); have n5_ := Aside0.mk (below_step wB hb); clear HO_8; clear HO392; clear HO398; clear BK339; clear HB; have HO_8 := n0_; have HO392 := n1_; have HO398 := n2_; have HO401 := n3_; have BK339 := n4_; have HB := n5_; clear n0_ n1_ n2_ n3_ n4_ n5_; clear hb ho108; obtain ⟨Ao110, co110, eo110⟩ := Kd.R_slice HO401.out; subst eo110) | ((with_reducible refine gate_builtin (b := .append) (xs := #[.tmp 111, .tmp 112]) rfl ?_); at_builtin; refine Kd.R_append_rows (Kd.int .u8) (w0 := w) w.heap.size rfl (.tmp 111) (.tmp 112) 22 5 (.int .u8 0) 1 rfl Try.underlying22 info5 rfl (by decide) (by omega) v397 t396 y399 _ _ _ (fun k_ => some k_ ≠ (.slice Ao89 x8_46.length co89 : Value).ownBlock ∧ some k_ ≠ (.slice Ao103 y390.length co103 : Value).ownBlock ∧ some k_ ≠ (.slice Ao110 y399.length co110 : Value).ownBlock) (fun _ => False) rfl rfl ?aO ?aR (fun _ _ h => h) (fun _ h => h.elim) ?aF ?aB ?aS ?aL ?_; (case aR => exact Ch HO401); (case aB => exact wB); (case aF => exact (fun k_ hk => ⟨Kd.fresh' (Kd.R_lt (Rh HO_8)) k_ hk, Kd.fresh' (Kd.R_lt (Rh HO392)) k_ hk, Kd.fresh' (Kd.R_lt (Rh HO401)) k_ hk⟩)); (case aO => exact (Kd.R_mono (Rh HO398) (fun _ hk => ⟨hk.1.1, ⟨hk.1.2, hk.2⟩⟩))); (case aS => exact (below_size wB)); (case aL => have := LMc79.out; omega); intro v403 w109 ho hb hg hat; rw [← Ny402.out] at ho; have n0_ := Aside0.mk (Kd.R_after (ok := (fun k_ => some k_ ≠ (.slice Ao103 y390.length co103 : Value).ownBlock ∧ some k_ ≠ (.slice Ao110 y399.length co110 : Value).ownBlock)) (Kd.R_mono (Rh HO_8) (fun _ hk => ⟨⟨hk.1.1, hk.2⟩, hk.1.2⟩)) hg hat); have n1_ := Aside0.mk (blk_grown (Bh BK339) hg (Kd.R_ne HO398.out BK339.out (by decide))); have n2_ := Aside0.mk (Kd.R_after (ok := (fun k_ => some k_ ≠ (.slice Ao89 x8_46.length co89 : Value).ownBlock ∧ some k_ ≠ (.slice Ao110 y399.length co110 : Value).ownBlock)) (Kd.R_mono (Rh HO392) (fun _ hk => ⟨⟨hk.1.1, hk.2⟩, hk.1.2⟩)) hg hat); have n3_ := Aside0.mk (Kd.R_after (ok := (fun k_ => some k_ ≠ (.slice Ao89 x8_46.length co89 : Value).ownBlock ∧ some k_ ≠ (.slice Ao103 y390.length co103 : Value).ownBlock)) (Kd.R_mono (Rh HO401) (fun _ hk => ⟨⟨hk.1.1.2, hk.1.2⟩, hk.2⟩)) hg hat); have n4_ := Aside0.mk (hb); have n5_ := Aside0.mk (ho); clear HO_8; clear BK339; clear HO392; clear HO401; clear HB; clear HO398; have HO_8 := n0_; have BK339 := n1_; have HO392 := n2_; have HO401 := n3_; have HB := n4_; have HO404 := n5_; clear n0_ n1_ n2_ n3_ n4_ n5_; clear ho hb hg hat))
 have n0_ := Aside0.mk (Kd.R_drew HO_8.out)
 have n1_ := Aside0.mk (Kd.R_drew HO392.out)
 have n2_ := Aside0.mk (Kd.R_drew HO401.out)
 have n3_ := Aside0.mk (Kd.R_drew HO404.out)
 have n4_ := Aside0.mk (blk_drew BK339.out)
 have n5_ := Aside0.mk (below_drew1 HB.out)
 clear HO_8
 clear HO392
 clear HO401
 clear HO404
 clear BK339
 clear HB
 have HO_8 := n0_
 have HO392 := n1_
 have HO401 := n2_
 have HO404 := n3_
 have BK339 := n4_
 have HB := n5_
 clear n0_ n1_ n2_ n3_ n4_ n5_
 refine start_ (n := 7) (S := fun w' => w'.cell? ⟨gb339, 0, none⟩ = some (.int .i64 a0_0) ∧ w'.cell? ⟨gb339, 1, none⟩ = some (.int .i64 a0_1) ∧ w'.cell? ⟨gb339, 2, none⟩ = some (.int .i64 a0_2) ∧ w'.cell? ⟨gb339, 3, none⟩ = some (.int .i64 a0_3) ∧ w'.cell? ⟨gb339, 4, none⟩ = some (.int .i64 a0_4) ∧ w'.cell? ⟨gb339, 5, none⟩ = some (.int .i64 a0_5) ∧ w'.cell? ⟨gb339, 6, none⟩ = some (.int .i64 a0_6) ∧ w'.cell? ⟨gb339, 7, none⟩ = some (.bool a0_7) ∧ w'.cell? ⟨gb339, 8, none⟩ = some (.int .i64 a0_8) ∧ w'.cell? ⟨gb339, 9, none⟩ = some (.bool a0_9) ∧ w'.cell? ⟨gb339, 10, none⟩ = some (.slice A0_10 l0_10.length c0_10) ∧ w'.cell? ⟨gb339, 11, none⟩ = some (.slice A0_11 l0_11.length c0_11)) (ds := []) #[false, false, false, false, false, false, false] (by kernel_rfl) rfl rfl ⟨(blk_cell BK339.out 0).trans rfl, (blk_cell BK339.out 1).trans rfl, (blk_cell BK339.out 2).trans rfl, (blk_cell BK339.out 3).trans rfl, (blk_cell BK339.out 4).trans rfl, (blk_cell BK339.out 5).trans rfl, (blk_cell BK339.out 6).trans rfl, (blk_cell BK339.out 7).trans rfl, (blk_cell BK339.out 8).trans rfl, (blk_cell BK339.out 9).trans rfl, (blk_cell BK339.out 10).trans rfl, (blk_cell BK339.out 11).trans rfl⟩ (fun hHeld => ?_)
 generalize w109.drew = w111 at HO_8 HO392 HO401 HO404 BK339 HB hHeld ⊢
 refine pure_ (i := 0) (N := some 114) (v := ?_) (a' := ?_) #[true, false, false, false, false, false, false] rfl rfl (by kernel_rfl) (fun _ _ _ h => h) (Or.inl ⟨by rfl, ?_⟩) ?_ ?_
 rotate_left
 {
 intro w'
 go_simp
 with_reducible rfl
 }
 rotate_left
 {
 simp only [Act.put, List.setIfInBounds_toArray, List.set_cons_zero, List.set_cons_succ, i64_w, i32_w]
 rfl
 }
 refine pure_ (i := 1) (N := some 115) (v := ?_) (a' := ?_) #[true, true, false, false, false, false, false] rfl rfl (by kernel_rfl) (fun _ _ _ h => h) (Or.inl ⟨by rfl, ?_⟩) ?_ ?_
 rotate_left
 {
 intro w'
 go_simp
 with_reducible rfl
 }
 rotate_left
 {
 simp only [Act.put, List.setIfInBounds_toArray, List.set_cons_zero, List.set_cons_succ, i64_w, i32_w]
 rfl
 }
 refine pure_ (i := 3) (N := some 117) (v := ?_) (a' := ?_) #[true, true, false, true, false, false, false] rfl rfl (by kernel_rfl) (fun _ _ _ h => h) (Or.inl ⟨by rfl, ?_⟩) ?_ ?_
 rotate_left
 {
 intro w'
 go_simp
 with_reducible rfl
 }
 rotate_left
 {
 simp only [Act.put, List.setIfInBounds_toArray, List.set_cons_zero, List.set_cons_succ, i64_w, i32_w]
 rfl
 }
 refine take_ (i := 4) (N := some 118) (v := ?_) (a' := ?_) #[true, true, false, true, true, false, false] rfl rfl (by kernel_rfl) (fun _ _ _ h => h) (Or.inl ⟨by rfl, ?_⟩) hHeld ?_ ?_
 rotate_left
 {
 rintro w' ⟨s0, s1, s2, s3, s4, s5, s6, s7, s8, s9, s10, s11⟩
 go_simp
 with_reducible rfl
 }
 rotate_left
 {
 simp only [Act.put, List.setIfInBounds_toArray, List.set_cons_zero, List.set_cons_succ, i64_w, i32_w]
 rfl
 }
 refine one_ (i := 2) (N := some 116) #[true, true, true, true, true, false, false] rfl rfl (by kernel_rfl) (by decide) (fun K hK => ?_)
 refine Kd.R_append_rows_step (Kd.int .u8) (w0 := w) w.heap.size (by rfl) (.tmp 114) (.tmp 115) 22 5 (.int .u8 0) 1 rfl Try.underlying22 info5 rfl (by decide) (by omega) v403 y402 x8_46 _ _ _ (fun k_ => some k_ ≠ (.slice Ao89 x8_46.length co89 : Value).ownBlock ∧ some k_ ≠ (.slice Ao103 y390.length co103 : Value).ownBlock ∧ some k_ ≠ (.slice Ao110 y399.length co110 : Value).ownBlock) (fun _ => False) rfl rfl ?aO ?aR (fun _ _ h => h) (fun _ h => h.elim) ?aF ?aB ?aS ?aL ?_
 (case aR => exact Ch HO_8)
 (case aB => exact wB)
 (case aF => exact (fun k_ hk => ⟨Kd.fresh' (Kd.R_lt (Rh HO_8)) k_ hk, Kd.fresh' (Kd.R_lt (Rh HO392)) k_ hk, Kd.fresh' (Kd.R_lt (Rh HO401)) k_ hk⟩))
 (case aO => exact (Rh HO404))
 (case aS => exact (below_size wB))
 (case aL => have := LMc80.out; omega)
 intro v406 w112 ho hb hg hat
 rw [← Ny405.out] at ho
 have n0_ := Aside0.mk (Kd.R_after (ok := (fun k_ => some k_ ≠ (.slice Ao103 y390.length co103 : Value).ownBlock ∧ some k_ ≠ (.slice Ao110 y399.length co110 : Value).ownBlock)) (Rh HO_8) hg hat)
 have n1_ := Aside0.mk (blk_grown (Bh BK339) hg (Kd.R_ne HO404.out BK339.out (by decide)))
 have n2_ := Aside0.mk (Kd.R_after (ok := (fun k_ => some k_ ≠ (.slice Ao89 x8_46.length co89 : Value).ownBlock ∧ some k_ ≠ (.slice Ao110 y399.length co110 : Value).ownBlock)) (Rh HO392) hg hat)
 have n3_ := Aside0.mk (Kd.R_after (ok := (fun k_ => some k_ ≠ (.slice Ao89 x8_46.length co89 : Value).ownBlock ∧ some k_ ≠ (.slice Ao103 y390.length co103 : Value).ownBlock)) (Rh HO401) hg hat)
 have n4_ := Aside0.mk (hb)
 have n5_ := Aside0.mk (ho)
 clear HO_8
 clear BK339
 clear HO392
 clear HO401
 clear HB
 clear HO404
 have HO_8 := n0_
 have BK339 := n1_
 have HO392 := n2_
 have HO401 := n3_
 have HB := n4_
 have HO407 := n5_
 clear n0_ n1_ n2_ n3_ n4_ n5_
 clear ho hb hg hat
 refine hK.out _ _ ⟨(blk_cell BK339.out 0).trans rfl, (blk_cell BK339.out 1).trans rfl, (blk_cell BK339.out 2).trans rfl, (blk_cell BK339.out 3).trans rfl, (blk_cell BK339.out 4).trans rfl, (blk_cell BK339.out 5).trans rfl, (blk_cell BK339.out 6).trans rfl, (blk_cell BK339.out 7).trans rfl, (blk_cell BK339.out 8).trans rfl, (blk_cell BK339.out 9).trans rfl, (blk_cell BK339.out 10).trans rfl, (blk_cell BK339.out 11).trans rfl⟩ (fun hHeld => ?_)
 clear hK K
 refine norm_ (a' := ?_) ?_ ?_
 rotate_left
 {
 show Act.put _ (some 116) _ = _
 simp only [Act.put, List.setIfInBounds_toArray, List.set_cons_zero, List.set_cons_succ, i64_w, i32_w]
 rfl
 }
 refine one_ (i := 5) (N := some 119) #[true, true, true, true, true, true, false] rfl rfl (by kernel_rfl) (by decide) (fun K hK => ?_)
 refine Kd.R_append_rows_step (Kd.int .u8) (w0 := w) w.heap.size (by rfl) (.tmp 116) (.tmp 118) 22 5 (.int .u8 0) 1 rfl Try.underlying22 info5 rfl (by decide) (by omega) v406 y405 l0_11 _ _ _ (fun k_ => some k_ ≠ (.slice Ao89 x8_46.length co89 : Value).ownBlock ∧ some k_ ≠ (.slice Ao103 y390.length co103 : Value).ownBlock ∧ some k_ ≠ (.slice Ao110 y399.length co110 : Value).ownBlock) (fun _ => False) rfl rfl ?aO ?aR (fun _ _ h => h) (fun _ h => h.elim) ?aF ?aB ?aS ?aL ?_
 (case aR => exact Kd.C_below HR0_11.out wB)
 (case aB => exact wB)
 (case aF => exact (fun k_ hk => ⟨Kd.fresh' (Kd.R_lt (Rh HO_8)) k_ hk, Kd.fresh' (Kd.R_lt (Rh HO392)) k_ hk, Kd.fresh' (Kd.R_lt (Rh HO401)) k_ hk⟩))
 (case aO => exact (Rh HO407))
 (case aS => exact (below_size wB))
 (case aL => have := LMc81.out; omega)
 intro v409 w113 ho hb hg hat
 rw [← Ny408.out] at ho
 have n0_ := Aside0.mk (Kd.R_after (ok := (fun k_ => some k_ ≠ (.slice Ao103 y390.length co103 : Value).ownBlock ∧ some k_ ≠ (.slice Ao110 y399.length co110 : Value).ownBlock)) (Rh HO_8) hg hat)
 have n1_ := Aside0.mk (blk_grown (Bh BK339) hg (Kd.R_ne HO407.out BK339.out (by decide)))
 have n2_ := Aside0.mk (Kd.R_after (ok := (fun k_ => some k_ ≠ (.slice Ao89 x8_46.length co89 : Value).ownBlock ∧ some k_ ≠ (.slice Ao110 y399.length co110 : Value).ownBlock)) (Rh HO392) hg hat)
 have n3_ := Aside0.mk (Kd.R_after (ok := (fun k_ => some k_ ≠ (.slice Ao89 x8_46.length co89 : Value).ownBlock ∧ some k_ ≠ (.slice Ao103 y390.length co103 : Value).ownBlock)) (Rh HO401) hg hat)
 have n4_ := Aside0.mk (hb)
 have n5_ := Aside0.mk (ho)
 clear HO_8
 clear BK339
 clear HO392
 clear HO401
 clear HB
 clear HO407
 have HO_8 := n0_
 have BK339 := n1_
 have HO392 := n2_
 have HO401 := n3_
 have HB := n4_
 have HO410 := n5_
 clear n0_ n1_ n2_ n3_ n4_ n5_
 clear ho hb hg hat
 refine hK.out _ _ ⟨(blk_cell BK339.out 0).trans rfl, (blk_cell BK339.out 1).trans rfl, (blk_cell BK339.out 2).trans rfl, (blk_cell BK339.out 3).trans rfl, (blk_cell BK339.out 4).trans rfl, (blk_cell BK339.out 5).trans rfl, (blk_cell BK339.out 6).trans rfl, (blk_cell BK339.out 7).trans rfl, (blk_cell BK339.out 8).trans rfl, (blk_cell BK339.out 9).trans rfl, (blk_cell BK339.out 10).trans rfl, (blk_cell BK339.out 11).trans rfl⟩ (fun hHeld => ?_)
 clear hK K
 refine norm_ (a' := ?_) ?_ ?_
 rotate_left
 {
 show Act.put _ (some 119) _ = _
 simp only [Act.put, List.setIfInBounds_toArray, List.set_cons_zero, List.set_cons_succ, i64_w, i32_w]
 rfl
 }
 refine pure_ (i := 6) (N := some 13) (v := ?_) (a' := ?_) #[true, true, true, true, true, true, true] rfl rfl (by kernel_rfl) (fun _ _ _ h => h) (Or.inl ⟨by rfl, ?_⟩) ?_ ?_
 rotate_left
 {
 intro w'
 go_simp
 with_reducible rfl
 }
 rotate_left
 {
 simp only [Act.put, List.setIfInBounds_toArray, List.set_cons_zero, List.set_cons_succ, i64_w, i32_w]
 rfl
 }
 refine done_ (by kernel_rfl) ?_
 obtain ⟨Ao114, co114, eo114⟩ := Kd.R_slice HO410.out
 subst eo114
 have n_ := Aside0.mk (Kd.R_mono (ok' := (fun _ => True)) HO410.out (fun k_ hk => trivial))
 clear HO410
 have HO410 := n_
 clear n_
 (try clear HO_8)
 (try clear HO392)
 (try clear HO401)
 try go_wp2_with (first | ((with_reducible refine gate_callee (f := 129) rfl ?_); refine goesL_ (some 124) rfl rfl Try.func129 (by kernel_rfl) rfl #[.int .i64 a1, .int .i64 a2, .int .i64 6, .int .i64 (y408.length : Int)] rfl wT ?_; (with_reducible refine (impl_FalseHead.calls kj46 a1 a2 6 (y408.length : Int) t411 _ A82.out).mono ?_); rintro e w115 ⟨v412, rfl, ho0, hb⟩; refine ⟨_, rfl, ?_⟩; have n0_ := Aside0.mk (Kd.R_elder' (Rh HO410) (Kd.R_base ho0) hb); have n1_ := Aside0.mk (Kd.R_lower (Kd.R_new' ho0 (Kd.R_lt (Rh HO410))) (below_size wB)); have n2_ := Aside0.mk (blk_below (Bh BK339) hb); have n3_ := Aside0.mk (below_step wB hb); clear HO410; clear BK339; clear HB; have HO410 := n0_; have HO413 := n1_; have BK339 := n2_; have HB := n3_; clear n0_ n1_ n2_ n3_; (try clear hb); (try clear hb2); (try clear hk); (try clear hi); (try clear ho0)) | ((with_reducible refine gate_builtin (b := .append) (xs := #[.tmp 124, .tmp 125]) rfl ?_); at_builtin; refine Kd.R_append_rows (Kd.int .u8) (w0 := w) w.heap.size rfl (.tmp 124) (.tmp 125) 22 5 (.int .u8 0) 1 rfl Try.underlying22 info5 rfl (by decide) (by omega) v412 t411 y408 _ _ _ (fun k_ => some k_ ≠ (.slice Ao114 y408.length co114 : Value).ownBlock) (fun _ => False) rfl rfl ?aO ?aR (fun _ _ h => h) (fun _ h => h.elim) ?aF ?aB ?aS ?aL ?_; (case aR => exact Ch HO410); (case aB => exact wB); (case aF => exact (fun k_ hk => Kd.fresh' (Kd.R_lt (Rh HO410)) k_ hk)); (case aO => exact (Kd.R_mono (Rh HO413) (fun _ hk => hk.2))); (case aS => exact (below_size wB)); (case aL => have := LMc83.out; omega); intro v415 w116 ho hb hg hat; rw [← Ny414.out] at ho; have n0_ := Aside0.mk (blk_grown (Bh BK339) hg (Kd.R_ne HO413.out BK339.out (by decide))); have n1_ := Aside0.mk (Kd.R_after (ok := (fun _ => True)) (Rh HO410) hg hat); have n2_ := Aside0.mk (hb); have n3_ := Aside0.mk (ho); clear BK339; clear HO410; clear HB; clear HO413; have BK339 := n0_; have HO410 := n1_; have HB := n2_; have HO416 := n3_; clear n0_ n1_ n2_ n3_; clear ho hb hg hat; obtain ⟨Ao117, co117, eo117⟩ := Kd.R_slice HO416.out; subst eo117) | ((with_reducible refine gate_callee (f := 128) rfl ?_); refine goesL_ (some 127) rfl rfl Try.func128 (by kernel_rfl) rfl #[.slice Ao117 y414.length co117] rfl wT ?_; (with_reducible refine (impl_Checksum.calls kj46 _ _ y414 t417 _ ?side1 ?side2 A84.out).mono ?_); (case side1 => exact Ch HO416); (case side2 => exact (Kd.R_reads' HO416.out).2.1); rintro e w' ⟨rfl, ⟨nd, rfl⟩⟩; refine ⟨_, rfl, ?_⟩; (try (rw [drewN_self w116]; generalize hq_ : World.drewN w116 _ = w116; have n0_ := Aside0.mk (Kd.R_at hq_ HO410.out); have n1_ := Aside0.mk (Kd.R_at hq_ HO416.out); have n2_ := Aside0.mk (blk_at hq_ BK339.out); have n3_ := Aside0.mk (below_at hq_ HB.out); clear hq_ HO410 HO416 BK339 HB; have HO410 := n0_; have HO416 := n1_; have BK339 := n2_; have HB := n3_; clear n0_ n1_ n2_ n3_; (try (obtain ⟨⟨hcyBK339_0, hcyBK339_1, hcyBK339_2, hcyBK339_3, hcyBK339_4, hcyBK339_5, hcyBK339_6, hcyBK339_7, hcyBK339_8, hcyBK339_9, hcyBK339_10, hcyBK339_11⟩, hfyBK339_0, hfyBK339_1, hfyBK339_2, hfyBK339_3, hfyBK339_4, hfyBK339_5, hfyBK339_6, hfyBK339_7, hfyBK339_8, hfyBK339_9, hfyBK339_10, hfyBK339_11⟩ := cells12 BK339.out)))); have p86 : 0 ≤ (16 : Int) := (by omega); have q86 : (16 : Int) < ((y408.length : Int) : Int) := of_decide_eq_true (by first | (with_reducible assumption) | assumption); have qi86 : (16 < y408.length) = True := eq_true (by omega); obtain ⟨go86, co86, eo86, gb86, gl86, cl86, HG86⟩ := Kd.R_form HO410.out (by omega); (first | cases eo86 | (injection eo86 with ea_ en_ ec_; (first | subst ea_ | (injection ea_ with ea_; subst ea_)); subst ec_; clear en_)); have GB86 := Aside0.mk gb86; have GG86 := Aside0.mk HG86; clear gb86 gl86 HG86; obtain ⟨hx86_0, hf86_0⟩ := Kd.R_celln 0 HO410.out (16 : Int) p86 q86; (try rw [show ((16 : Int)).toNat = 16 from rfl] at hx86_0); (try simp only [Nat.reduceMul, Nat.zero_mul, Nat.zero_add, Nat.reduceAdd] at hx86_0); (try rw [show ((16 : Int)).toNat = 16 from rfl] at hf86_0); (try simp only [Nat.reduceMul, Nat.zero_mul, Nat.zero_add, Nat.reduceAdd] at hf86_0); replace p86 := eq_true p86; replace q86 := eq_true q86; have n_ := Aside0.mk (Kd.R_mono (ok' := (fun k_ => some k_ ≠ (.slice Ao117 y414.length co117 : Value).ownBlock)) HO410.out (fun k_ hk => hk.2)); clear HO410; have HO410 := n_; clear n_; obtain ⟨hy118_, hz118_⟩ := Kd.R_celln 0 HO410.out (16 : Int) (by omega) (of_decide_eq_true (by first | (with_reducible assumption) | assumption)); (try simp only [Int.reduceToNat, Int.toNat_zero, Int.toNat_ofNat, Nat.reduceMul, Nat.zero_mul, Nat.zero_add] at hy118_ hz118_); (try rw [show ((16 : Int)).toNat = 16 from rfl] at hy118_); (try rw [show ((16 : Int)).toNat = 16 from rfl] at hz118_); have HP118 := Kd.R_putg HO410.out (16 : Int) ((t417 / 256) % 256)) | ((with_reducible refine gate_store (t := 5) (p := 135) rfl ?_); (try (rw [drewN_self w116]; generalize hq_ : World.drewN w116 _ = w116; have n0_ := Aside0.mk (Kd.R_at hq_ HO410.out); have n1_ := Aside0.mk (Kd.R_at hq_ HO416.out); have n2_ := Aside0.mk (blk_at hq_ BK339.out); have n3_ := Aside0.mk (below_at hq_ HB.out); clear hq_ HO410 HO416 BK339 HB; have HO410 := n0_; have HO416 := n1_; have BK339 := n2_; have HB := n3_; clear n0_ n1_ n2_ n3_; (try (obtain ⟨⟨hcyBK339_0, hcyBK339_1, hcyBK339_2, hcyBK339_3, hcyBK339_4, hcyBK339_5, hcyBK339_6, hcyBK339_7, hcyBK339_8, hcyBK339_9, hcyBK339_10, hcyBK339_11⟩, hfyBK339_0, hfyBK339_1, hfyBK339_2, hfyBK339_3, hfyBK339_4, hfyBK339_5, hfyBK339_6, hfyBK339_7, hfyBK339_8, hfyBK339_9, hfyBK339_10, hfyBK339_11⟩ := cells12 BK339.out)); (try (have n_ := Aside0.mk (Kd.R_mono (ok' := (fun k_ => some k_ ≠ (.slice Ao117 y414.length co117 : Value).ownBlock)) HO410.out (fun k_ hk => hk.2)); clear HO410; have HO410 := n_; clear n_)); (try (obtain ⟨hy118_, hz118_⟩ := Kd.R_celln 0 HO410.out (16 : Int) (by omega) (of_decide_eq_true (by first | (with_reducible assumption) | assumption)))); (try (try simp only [Int.reduceToNat, Int.toNat_zero, Int.toNat_ofNat, Nat.reduceMul, Nat.zero_mul, Nat.zero_add] at hy118_ hz118_)); (try (try rw [show ((16 : Int)).toNat = 16 from rfl] at hy118_)); (try (try rw [show ((16 : Int)).toNat = 16 from rfl] at hz118_)); (try (have HP118 := Kd.R_putg HO410.out (16 : Int) ((t417 / 256) % 256))))); refine store_event (t := 5) (p := 135) (v := ?vo_w119) (w1 := (w116.setCell ⟨go86, (16 : Int).toNat, none⟩ (.int .u8 ((t417 / 256) % 256)))) ?hg ?ho ?hn ?hr ?_; (case ho => rfl); (case hg => rfl); (case hn => rfl); (case hr => first | (go_simp; done) | (go_simp; rfl)); intro w119 hw; have hg : w116.grownBy w119 (some go86) := (by rw [hw]; exact HP118.2); have hp_ : Kd.R (Kd.int .u8) 5 w119 w.heap.size (fun k_ => some k_ ≠ (.slice Ao117 y414.length co117 : Value).ownBlock) (.slice (some ⟨go86, 0, none⟩) y408.length co114) y418 := (by rw [hw, Ny418.out]; exact HP118.1); clear HP118; have n0_ := Aside0.mk (blk_grown (Bh BK339) hg (Kd.R_ne HO410.out BK339.out (by decide))); have n1_ := Aside0.mk (hp_); have n2_ := Aside0.mk (Kd.R_after (v := (.slice (some ⟨go86, 0, none⟩) y408.length co114)) (v1 := (.slice (some ⟨go86, 0, none⟩) y408.length co114)) (ok := (fun _ => True)) (Kd.R_mono (Rh HO416) (fun _ hk => ⟨trivial, hk⟩)) hg (.inl rfl)); have n3_ := Aside0.mk ((by rw [hw]; exact below_set (HB.out) GB86.out : Below w.heap.size w w119)); clear BK339; clear HO410; clear HO416; clear HB; have BK339 := n0_; have HO410 := n1_; have HO416 := n2_; have HB := n3_; clear n0_ n1_ n2_ n3_; clear hg hw hp_; have p88 : 0 ≤ (17 : Int) := (by omega); have q88 : (17 : Int) < ((y408.length : Int) : Int) := of_decide_eq_true (by first | (with_reducible assumption) | assumption); have qi88 : (17 < y408.length) = True := eq_true (by omega); obtain ⟨hx88_0, hf88_0⟩ := Kd.R_celln 0 HO410.out (17 : Int) p88 q88; (try rw [show ((17 : Int)).toNat = 17 from rfl] at hx88_0); (try simp only [Nat.reduceMul, Nat.zero_mul, Nat.zero_add, Nat.reduceAdd] at hx88_0); (try rw [show ((17 : Int)).toNat = 17 from rfl] at hf88_0); (try simp only [Nat.reduceMul, Nat.zero_mul, Nat.zero_add, Nat.reduceAdd] at hf88_0); replace p88 := eq_true p88; replace q88 := eq_true q88; obtain ⟨hy120_, hz120_⟩ := Kd.R_celln 0 HO410.out (17 : Int) (by omega) (of_decide_eq_true (by first | (with_reducible assumption) | assumption)); (try simp only [Int.reduceToNat, Int.toNat_zero, Int.toNat_ofNat, Nat.reduceMul, Nat.zero_mul, Nat.zero_add] at hy120_ hz120_); (try rw [show ((17 : Int)).toNat = 17 from rfl] at hy120_); (try rw [show ((17 : Int)).toNat = 17 from rfl] at hz120_); have HP120 := Kd.R_putg HO410.out (17 : Int) ((t417) % 256)) | ((with_reducible refine gate_store (t := 5) (p := 136) rfl ?_); (try (rw [drewN_self w119]; generalize hq_ : World.drewN w119 _ = w119; have n0_ := Aside0.mk (Kd.R_at hq_ HO410.out); have n1_ := Aside0.mk (Kd.R_at hq_ HO416.out); have n2_ := Aside0.mk (blk_at hq_ BK339.out); have n3_ := Aside0.mk (below_at hq_ HB.out); clear hq_ HO410 HO416 BK339 HB; have HO410 := n0_; have HO416 := n1_; have BK339 := n2_; have HB := n3_; clear n0_ n1_ n2_ n3_; (try (obtain ⟨⟨hcyBK339_0, hcyBK339_1, hcyBK339_2, hcyBK339_3, hcyBK339_4, hcyBK339_5, hcyBK339_6, hcyBK339_7, hcyBK339_8, hcyBK339_9, hcyBK339_10, hcyBK339_11⟩, hfyBK339_0, hfyBK339_1, hfyBK339_2, hfyBK339_3, hfyBK339_4, hfyBK339_5, hfyBK339_6, hfyBK339_7, hfyBK339_8, hfyBK339_9, hfyBK339_10, hfyBK339_11⟩ := cells12 BK339.out)); (try (obtain ⟨hy120_, hz120_⟩ := Kd.R_celln 0 HO410.out (17 : Int) (by omega) (of_decide_eq_true (by first | (with_reducible assumption) | assumption)))); (try (try simp only [Int.reduceToNat, Int.toNat_zero, Int.toNat_ofNat, Nat.reduceMul, Nat.zero_mul, Nat.zero_add] at hy120_ hz120_)); (try (try rw [show ((17 : Int)).toNat = 17 from rfl] at hy120_)); (try (try rw [show ((17 : Int)).toNat = 17 from rfl] at hz120_)); (try (have HP120 := Kd.R_putg HO410.out (17 : Int) ((t417) % 256))))); refine store_event (t := 5) (p := 136) (v := ?vo_w121) (w1 := (w119.setCell ⟨go86, (17 : Int).toNat, none⟩ (.int .u8 ((t417) % 256)))) ?hg ?ho ?hn ?hr ?_; (case ho => rfl); (case hg => rfl); (case hn => rfl); (case hr => first | (go_simp; done) | (go_simp; rfl)); intro w121 hw; have hg : w119.grownBy w121 (some go86) := (by rw [hw]; exact HP120.2); have hp_ : Kd.R (Kd.int .u8) 5 w121 w.heap.size (fun k_ => some k_ ≠ (.slice Ao117 y414.length co117 : Value).ownBlock) (.slice (some ⟨go86, 0, none⟩) y408.length co114) y419 := (by rw [hw, Ny419.out]; exact HP120.1); clear HP120; have n0_ := Aside0.mk (blk_grown (Bh BK339) hg (Kd.R_ne HO410.out BK339.out (by decide))); have n1_ := Aside0.mk (hp_); have n2_ := Aside0.mk (Kd.R_after (v := (.slice (some ⟨go86, 0, none⟩) y408.length co114)) (v1 := (.slice (some ⟨go86, 0, none⟩) y408.length co114)) (ok := (fun _ => True)) (Rh HO416) hg (.inl rfl)); have n3_ := Aside0.mk ((by rw [hw]; exact below_set (HB.out) GB86.out : Below w.heap.size w w121)); clear BK339; clear HO410; clear HO416; clear HB; have BK339 := n0_; have HO410 := n1_; have HO416 := n2_; have HB := n3_; clear n0_ n1_ n2_ n3_; clear hg hw hp_))
 go_ret2
 exact ⟨_, by first | rfl | (simp [errW_none, errW_some] <;> rfl) | (simp [*, errW_none, errW_some] <;> rfl), Kd.R_mono (Rh HO410) (fun _ hk => trivial), wB⟩
 }
 {
 rw [if_neg c87] at H
 exact absurd H (by simp)
 }
 }
 {
 rw [if_neg c85] at H
 exact absurd H (by simp)
 }
 }
 {
 rw [if_neg c83] at H
 exact absurd H (by simp)
 }
 }
 {
 rw [if_neg c81] at H
 exact absurd H (by simp)
 }
 }
 {
 rw [if_neg c80] at H
 exact absurd H (by simp)
 }
 }
 {
 rw [if_neg c79] at H
 exact absurd H (by simp)
 }
 }
 {
 rw [if_neg c77] at H
 exact absurd H (by simp)
 }
 }
 }
 )
 }
 )
 }
 )
 }
 )
 }
 }
 )

end Go.Proofs.Ytobaoffcepmeiaa.PFnExactEncodeSegment
