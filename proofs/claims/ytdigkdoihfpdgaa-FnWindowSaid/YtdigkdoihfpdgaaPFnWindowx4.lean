-- Written for this claim by a program of this session (wip/mkprint.py: the print, turned at a few places). Not trusted: Lean checks it.
import Derived.Test.YtdigkdoihfpdgaaPFnWindowx0
import Derived.Test.YtdigkdoihfpdgaaPFnWindowx1
import Derived.Test.YtdigkdoihfpdgaaPFnWindowx2
import Derived.Test.YtdigkdoihfpdgaaPFnWindowx3
namespace Go.Proofs.Ytdigkdoihfpdgaa.PFnWindow
open Go.RowKit Go.Proofs.YtdigkdoihfpdgaaW.PrintWords Go.Proofs.YtdigkdoihfpdgaaW.PrintLast Go.Proofs.YtdigkdoihfpdgaaW.PrintMore
attribute [local go_sem] max2_int min2_int max_two min_two max_three min_three max_four min_four   -- for this text's walks alone
set_option linter.unusedVariables false
set_option linter.unusedSimpArgs false

attribute [local go_sem high] eqA36
/-! ### laws_FnWindow: function 4 -/
mutual
def laws_FnWindow.j0 : Nat → Int → Bool → List Int → Int → Int → Int → Int → Int → Int → Option (Bool)
  | 0, _, _, _, _, _, _, _, _, _ => none
  | k + 1, x4, x40, x137000, x137001, x137002, x146000, x146001, x146002, x146003 => if x40 = true then (some false) else ((laws_lwNext.f x137000 x137001 x137002 40).bind fun bt152 => (laws_FnWindow.l0 k x4 x146001 0 x146001 (wrap64 (bt152.1 + 1)) x137000 bt152.2.1 bt152.2.2 x146000 x146001 x146002 x146003))
def laws_FnWindow.l0 : Nat → Int → Int → Int → Int → Int → List Int → Int → Int → Int → Int → Int → Int → Option (Bool)
  | 0, _, _, _, _, _, _, _, _, _, _, _, _ => none
  | k + 1, x4, x9, x10, x11, x12, x137000, x137001, x137002, x146000, x146001, x146002, x146003 => if x12 > 0 then ((laws_lwNext.f x137000 x137001 x137002 100000).bind fun bt156 => (if (wrap64 (Int.tdiv bt156.1 2)) < (wrap64 (2 * x4)) then (laws_FnWindow.j2 k x4 x9 x10 x11 x12 bt156.1 (wrap64 (2 * x4)) x137000 bt156.2.1 bt156.2.2 x146000 x146001 x146002 x146003 x146000 x146001 x146002 x146003) else (laws_FnWindow.j2 k x4 x9 x10 x11 x12 bt156.1 (wrap64 (Int.tdiv bt156.1 2)) x137000 bt156.2.1 bt156.2.2 x146000 x146001 x146002 x146003 x146000 x146001 x146002 x146003))) else (some true)
def laws_FnWindow.j2 : Nat → Int → Int → Int → Int → Int → Int → Int → List Int → Int → Int → Int → Int → Int → Int → Int → Int → Int → Int → Option (Bool)
  | 0, _, _, _, _, _, _, _, _, _, _, _, _, _, _, _, _, _, _ => none
  | k + 1, x4, x9, x10, x11, x12, x14, x15, x137000, x137001, x137002, x146000, x146001, x146002, x146003, x156000, x156001, x156002, x156003 => (laws_lwNext.f x137000 x137001 x137002 (wrap64 (2 * x4))).bind fun bt159 => ((laws_lwNext.f x137000 bt159.2.1 bt159.2.2 8).bind fun bt162 => (if bt162.1 = 0 then ((impl_CongLoss.f k x146000 x146001 x146002 x146003 x14).bind fun bt165 => (if bt165.2.1 = x15 then (if bt165.2.2.1 = x15 then (laws_FnWindow.j4 k x4 bt165.2.2.2.2 x9 0 x15 x12 x137000 bt162.2.1 bt162.2.2 bt165.1 bt165.2.1 bt165.2.2.1 bt165.2.2.2.1) else (some false)) else (some false))) else (if bt162.1 = 1 then ((impl_CongTimeout.f k x146000 x146001 x146002 x146003 x14).bind fun bt170 => (if bt170.2.1 = x4 then (if bt170.2.2.1 = x15 then (laws_FnWindow.j4 k x4 bt170.2.2.2.2 x9 0 x4 x12 x137000 bt162.2.1 bt162.2.2 bt170.1 bt170.2.1 bt170.2.2.1 bt170.2.2.2.1) else (some false)) else (some false))) else (if bt162.1 = 2 then ((impl_CongIdle.f x146000 x146001 x146002 x146003).bind fun bt175 => (if bt175.2.1 > x156001 then (some false) else (if bt175.2.1 > x9 then (some false) else (laws_FnWindow.j4 k x4 bt175.2.2.2.2 x9 0 bt175.2.1 x12 x137000 bt162.2.1 bt162.2.2 bt175.1 bt175.2.1 bt175.2.2.1 bt175.2.2.2.1)))) else ((impl_CongAck.f k x146000 x146001 x146002 x146003 (wrap64 (1 + bt159.1))).bind fun bt180 => (if bt180.2.1 < x156001 then (laws_FnWindow.j3 k x4 bt180.2.2.2.2 x9 (wrap64 (x10 + (wrap64 (1 + bt159.1)))) x11 x12 (wrap64 (1 + bt159.1)) true x137000 bt162.2.1 bt162.2.2 bt180.1 bt180.2.1 bt180.2.2.1 bt180.2.2.2.1 x156000 x156001 x156002 x156003) else (laws_FnWindow.j3 k x4 bt180.2.2.2.2 x9 (wrap64 (x10 + (wrap64 (1 + bt159.1)))) x11 x12 (wrap64 (1 + bt159.1)) (decide (bt180.2.1 > (wrap64 (x156001 + x4)))) x137000 bt162.2.1 bt162.2.2 bt180.1 bt180.2.1 bt180.2.2.1 bt180.2.2.2.1 x156000 x156001 x156002 x156003)))))))
def laws_FnWindow.j4 : Nat → Int → Int → Int → Int → Int → Int → List Int → Int → Int → Int → Int → Int → Int → Option (Bool)
  | 0, _, _, _, _, _, _, _, _, _, _, _, _, _ => none
  | k + 1, x4, x6, x9, x10, x11, x12, x137000, x137001, x137002, x146000, x146001, x146002, x146003 => if x6 = 0 then (if x146001 < x4 then (laws_FnWindow.j5 k x4 x9 x10 x11 x12 true x137000 x137001 x137002 x146000 x146001 x146002 x146003) else (if x146000 = x4 then (laws_FnWindow.j5 k x4 x9 x10 x11 x12 (decide (x146001 > (wrap64 (x11 + x10)))) x137000 x137001 x137002 x146000 x146001 x146002 x146003) else (laws_FnWindow.j5 k x4 x9 x10 x11 x12 true x137000 x137001 x137002 x146000 x146001 x146002 x146003))) else (laws_FnWindow.j5 k x4 x9 x10 x11 x12 true x137000 x137001 x137002 x146000 x146001 x146002 x146003)
def laws_FnWindow.j5 : Nat → Int → Int → Int → Int → Int → Bool → List Int → Int → Int → Int → Int → Int → Int → Option (Bool)
  | 0, _, _, _, _, _, _, _, _, _, _, _, _, _ => none
  | k + 1, x4, x9, x10, x11, x12, x181, x137000, x137001, x137002, x146000, x146001, x146002, x146003 => if x181 = true then (some false) else (laws_FnWindow.l0 k x4 x9 x10 x11 (wrap64 (x12 - 1)) x137000 x137001 x137002 x146000 x146001 x146002 x146003)
def laws_FnWindow.j3 : Nat → Int → Int → Int → Int → Int → Int → Int → Bool → List Int → Int → Int → Int → Int → Int → Int → Int → Int → Int → Int → Option (Bool)
  | 0, _, _, _, _, _, _, _, _, _, _, _, _, _, _, _, _, _, _, _ => none
  | k + 1, x4, x6, x9, x10, x11, x12, x16, x87, x137000, x137001, x137002, x146000, x146001, x146002, x146003, x156000, x156001, x156002, x156003 => if x87 = true then (some false) else (if x156001 < x156002 then (if x146001 > (wrap64 (x156001 + x16)) then (some false) else (laws_FnWindow.j4 k x4 x6 x9 x10 x11 x12 x137000 x137001 x137002 x146000 x146001 x146002 x146003)) else (laws_FnWindow.j4 k x4 x6 x9 x10 x11 x12 x137000 x137001 x137002 x146000 x146001 x146002 x146003))
end
def laws_FnWindow.f (k : Nat) (l0 : List Int) : Option (Bool) := if (l0.length : Int) > 1048576 then (some true) else ((laws_lwBegin.f k l0 12).bind fun bt134 => ((laws_lwNext.f l0 bt134.1 bt134.2 3000).bind fun bt137 => ((impl_NewCong.f (wrap64 (1 + bt137.1))).bind fun bt140 => ((spec_NewCong.f (wrap64 (1 + bt137.1))).bind fun bt146 => (if bt140.2.2.2.2 = 0 then (laws_FnWindow.j0 k (wrap64 (1 + bt137.1)) (!(bt140.1 == bt146.1) || (!(bt140.2.1 == bt146.2.1) || (!(bt140.2.2.1 == bt146.2.2.1) || (!(bt140.2.2.2.1 == bt146.2.2.2.1))))) l0 bt137.2.1 bt137.2.2 bt140.1 bt140.2.1 bt140.2.2.1 bt140.2.2.2.1) else (laws_FnWindow.j0 k (wrap64 (1 + bt137.1)) true l0 bt137.2.1 bt137.2.2 bt140.1 bt140.2.1 bt140.2.2.1 bt140.2.2.2.1))))))
theorem laws_FnWindow.mono_l : ∀ k, (∀ y0 y1 y2 y3 y4 y5 y6 y7 y8, LeO (laws_FnWindow.j0 k y0 y1 y2 y3 y4 y5 y6 y7 y8) (laws_FnWindow.j0 (k + 1) y0 y1 y2 y3 y4 y5 y6 y7 y8)) ∧ (∀ y0 y1 y2 y3 y4 y5 y6 y7 y8 y9 y10 y11, LeO (laws_FnWindow.l0 k y0 y1 y2 y3 y4 y5 y6 y7 y8 y9 y10 y11) (laws_FnWindow.l0 (k + 1) y0 y1 y2 y3 y4 y5 y6 y7 y8 y9 y10 y11)) ∧ (∀ y0 y1 y2 y3 y4 y5 y6 y7 y8 y9 y10 y11 y12 y13 y14 y15 y16 y17, LeO (laws_FnWindow.j2 k y0 y1 y2 y3 y4 y5 y6 y7 y8 y9 y10 y11 y12 y13 y14 y15 y16 y17) (laws_FnWindow.j2 (k + 1) y0 y1 y2 y3 y4 y5 y6 y7 y8 y9 y10 y11 y12 y13 y14 y15 y16 y17)) ∧ (∀ y0 y1 y2 y3 y4 y5 y6 y7 y8 y9 y10 y11 y12, LeO (laws_FnWindow.j4 k y0 y1 y2 y3 y4 y5 y6 y7 y8 y9 y10 y11 y12) (laws_FnWindow.j4 (k + 1) y0 y1 y2 y3 y4 y5 y6 y7 y8 y9 y10 y11 y12)) ∧ (∀ y0 y1 y2 y3 y4 y5 y6 y7 y8 y9 y10 y11 y12, LeO (laws_FnWindow.j5 k y0 y1 y2 y3 y4 y5 y6 y7 y8 y9 y10 y11 y12) (laws_FnWindow.j5 (k + 1) y0 y1 y2 y3 y4 y5 y6 y7 y8 y9 y10 y11 y12)) ∧ (∀ y0 y1 y2 y3 y4 y5 y6 y7 y8 y9 y10 y11 y12 y13 y14 y15 y16 y17 y18, LeO (laws_FnWindow.j3 k y0 y1 y2 y3 y4 y5 y6 y7 y8 y9 y10 y11 y12 y13 y14 y15 y16 y17 y18) (laws_FnWindow.j3 (k + 1) y0 y1 y2 y3 y4 y5 y6 y7 y8 y9 y10 y11 y12 y13 y14 y15 y16 y17 y18))
  | 0 => ⟨fun _ _ _ _ _ _ _ _ _ r h => by simp [laws_FnWindow.j0] at h, fun _ _ _ _ _ _ _ _ _ _ _ _ r h => by simp [laws_FnWindow.l0] at h, fun _ _ _ _ _ _ _ _ _ _ _ _ _ _ _ _ _ _ r h => by simp [laws_FnWindow.j2] at h, fun _ _ _ _ _ _ _ _ _ _ _ _ _ r h => by simp [laws_FnWindow.j4] at h, fun _ _ _ _ _ _ _ _ _ _ _ _ _ r h => by simp [laws_FnWindow.j5] at h, fun _ _ _ _ _ _ _ _ _ _ _ _ _ _ _ _ _ _ _ r h => by simp [laws_FnWindow.j3] at h⟩
  | k + 1 => by
    obtain ⟨ih0, ih1, ih2, ih3, ih4, ih5⟩ := laws_FnWindow.mono_l k
    refine ⟨?_, ?_, ?_, ?_, ?_, ?_⟩
    · intro y0 y1 y2 y3 y4 y5 y6 y7 y8
      unfold laws_FnWindow.j0
      repeat' first
      | (with_reducible exact ih0 _ _ _ _ _ _ _ _ _)
      | (with_reducible exact ih1 _ _ _ _ _ _ _ _ _ _ _ _)
      | (with_reducible exact ih2 _ _ _ _ _ _ _ _ _ _ _ _ _ _ _ _ _ _)
      | (with_reducible exact ih3 _ _ _ _ _ _ _ _ _ _ _ _ _)
      | (with_reducible exact ih4 _ _ _ _ _ _ _ _ _ _ _ _ _)
      | (with_reducible exact ih5 _ _ _ _ _ _ _ _ _ _ _ _ _ _ _ _ _ _ _)
      | (with_reducible exact impl_CongAck.mono _ _ _ _ _ _)
      | (with_reducible exact impl_CongLoss.mono _ _ _ _ _ _)
      | (with_reducible exact impl_CongTimeout.mono _ _ _ _ _ _)
      | (with_reducible exact laws_lwBegin.mono _ _ _)
      | (with_reducible exact LeO.refl _)
      | (with_reducible exact LeO.none _)
      | (with_reducible refine LeO.ite ?_ ?_)
      | (with_reducible refine LeO.bind ?_ (fun _ => ?_))
      | exact ih0 _ _ _ _ _ _ _ _ _
      | exact ih1 _ _ _ _ _ _ _ _ _ _ _ _
      | exact ih2 _ _ _ _ _ _ _ _ _ _ _ _ _ _ _ _ _ _
      | exact ih3 _ _ _ _ _ _ _ _ _ _ _ _ _
      | exact ih4 _ _ _ _ _ _ _ _ _ _ _ _ _
      | exact ih5 _ _ _ _ _ _ _ _ _ _ _ _ _ _ _ _ _ _ _
      | exact impl_CongAck.mono _ _ _ _ _ _
      | exact impl_CongLoss.mono _ _ _ _ _ _
      | exact impl_CongTimeout.mono _ _ _ _ _ _
      | exact laws_lwBegin.mono _ _ _
      | exact LeO.none _
      | refine LeO.ite ?_ ?_
      | refine LeO.bind ?_ (fun _ => ?_)
    · intro y0 y1 y2 y3 y4 y5 y6 y7 y8 y9 y10 y11
      unfold laws_FnWindow.l0
      repeat' first
      | (with_reducible exact ih0 _ _ _ _ _ _ _ _ _)
      | (with_reducible exact ih1 _ _ _ _ _ _ _ _ _ _ _ _)
      | (with_reducible exact ih2 _ _ _ _ _ _ _ _ _ _ _ _ _ _ _ _ _ _)
      | (with_reducible exact ih3 _ _ _ _ _ _ _ _ _ _ _ _ _)
      | (with_reducible exact ih4 _ _ _ _ _ _ _ _ _ _ _ _ _)
      | (with_reducible exact ih5 _ _ _ _ _ _ _ _ _ _ _ _ _ _ _ _ _ _ _)
      | (with_reducible exact impl_CongAck.mono _ _ _ _ _ _)
      | (with_reducible exact impl_CongLoss.mono _ _ _ _ _ _)
      | (with_reducible exact impl_CongTimeout.mono _ _ _ _ _ _)
      | (with_reducible exact laws_lwBegin.mono _ _ _)
      | (with_reducible exact LeO.refl _)
      | (with_reducible exact LeO.none _)
      | (with_reducible refine LeO.ite ?_ ?_)
      | (with_reducible refine LeO.bind ?_ (fun _ => ?_))
      | exact ih0 _ _ _ _ _ _ _ _ _
      | exact ih1 _ _ _ _ _ _ _ _ _ _ _ _
      | exact ih2 _ _ _ _ _ _ _ _ _ _ _ _ _ _ _ _ _ _
      | exact ih3 _ _ _ _ _ _ _ _ _ _ _ _ _
      | exact ih4 _ _ _ _ _ _ _ _ _ _ _ _ _
      | exact ih5 _ _ _ _ _ _ _ _ _ _ _ _ _ _ _ _ _ _ _
      | exact impl_CongAck.mono _ _ _ _ _ _
      | exact impl_CongLoss.mono _ _ _ _ _ _
      | exact impl_CongTimeout.mono _ _ _ _ _ _
      | exact laws_lwBegin.mono _ _ _
      | exact LeO.none _
      | refine LeO.ite ?_ ?_
      | refine LeO.bind ?_ (fun _ => ?_)
    · intro y0 y1 y2 y3 y4 y5 y6 y7 y8 y9 y10 y11 y12 y13 y14 y15 y16 y17
      unfold laws_FnWindow.j2
      repeat' first
      | (with_reducible exact ih0 _ _ _ _ _ _ _ _ _)
      | (with_reducible exact ih1 _ _ _ _ _ _ _ _ _ _ _ _)
      | (with_reducible exact ih2 _ _ _ _ _ _ _ _ _ _ _ _ _ _ _ _ _ _)
      | (with_reducible exact ih3 _ _ _ _ _ _ _ _ _ _ _ _ _)
      | (with_reducible exact ih4 _ _ _ _ _ _ _ _ _ _ _ _ _)
      | (with_reducible exact ih5 _ _ _ _ _ _ _ _ _ _ _ _ _ _ _ _ _ _ _)
      | (with_reducible exact impl_CongAck.mono _ _ _ _ _ _)
      | (with_reducible exact impl_CongLoss.mono _ _ _ _ _ _)
      | (with_reducible exact impl_CongTimeout.mono _ _ _ _ _ _)
      | (with_reducible exact laws_lwBegin.mono _ _ _)
      | (with_reducible exact LeO.refl _)
      | (with_reducible exact LeO.none _)
      | (with_reducible refine LeO.ite ?_ ?_)
      | (with_reducible refine LeO.bind ?_ (fun _ => ?_))
      | exact ih0 _ _ _ _ _ _ _ _ _
      | exact ih1 _ _ _ _ _ _ _ _ _ _ _ _
      | exact ih2 _ _ _ _ _ _ _ _ _ _ _ _ _ _ _ _ _ _
      | exact ih3 _ _ _ _ _ _ _ _ _ _ _ _ _
      | exact ih4 _ _ _ _ _ _ _ _ _ _ _ _ _
      | exact ih5 _ _ _ _ _ _ _ _ _ _ _ _ _ _ _ _ _ _ _
      | exact impl_CongAck.mono _ _ _ _ _ _
      | exact impl_CongLoss.mono _ _ _ _ _ _
      | exact impl_CongTimeout.mono _ _ _ _ _ _
      | exact laws_lwBegin.mono _ _ _
      | exact LeO.none _
      | refine LeO.ite ?_ ?_
      | refine LeO.bind ?_ (fun _ => ?_)
    · intro y0 y1 y2 y3 y4 y5 y6 y7 y8 y9 y10 y11 y12
      unfold laws_FnWindow.j4
      repeat' first
      | (with_reducible exact ih0 _ _ _ _ _ _ _ _ _)
      | (with_reducible exact ih1 _ _ _ _ _ _ _ _ _ _ _ _)
      | (with_reducible exact ih2 _ _ _ _ _ _ _ _ _ _ _ _ _ _ _ _ _ _)
      | (with_reducible exact ih3 _ _ _ _ _ _ _ _ _ _ _ _ _)
      | (with_reducible exact ih4 _ _ _ _ _ _ _ _ _ _ _ _ _)
      | (with_reducible exact ih5 _ _ _ _ _ _ _ _ _ _ _ _ _ _ _ _ _ _ _)
      | (with_reducible exact impl_CongAck.mono _ _ _ _ _ _)
      | (with_reducible exact impl_CongLoss.mono _ _ _ _ _ _)
      | (with_reducible exact impl_CongTimeout.mono _ _ _ _ _ _)
      | (with_reducible exact laws_lwBegin.mono _ _ _)
      | (with_reducible exact LeO.refl _)
      | (with_reducible exact LeO.none _)
      | (with_reducible refine LeO.ite ?_ ?_)
      | (with_reducible refine LeO.bind ?_ (fun _ => ?_))
      | exact ih0 _ _ _ _ _ _ _ _ _
      | exact ih1 _ _ _ _ _ _ _ _ _ _ _ _
      | exact ih2 _ _ _ _ _ _ _ _ _ _ _ _ _ _ _ _ _ _
      | exact ih3 _ _ _ _ _ _ _ _ _ _ _ _ _
      | exact ih4 _ _ _ _ _ _ _ _ _ _ _ _ _
      | exact ih5 _ _ _ _ _ _ _ _ _ _ _ _ _ _ _ _ _ _ _
      | exact impl_CongAck.mono _ _ _ _ _ _
      | exact impl_CongLoss.mono _ _ _ _ _ _
      | exact impl_CongTimeout.mono _ _ _ _ _ _
      | exact laws_lwBegin.mono _ _ _
      | exact LeO.none _
      | refine LeO.ite ?_ ?_
      | refine LeO.bind ?_ (fun _ => ?_)
    · intro y0 y1 y2 y3 y4 y5 y6 y7 y8 y9 y10 y11 y12
      unfold laws_FnWindow.j5
      repeat' first
      | (with_reducible exact ih0 _ _ _ _ _ _ _ _ _)
      | (with_reducible exact ih1 _ _ _ _ _ _ _ _ _ _ _ _)
      | (with_reducible exact ih2 _ _ _ _ _ _ _ _ _ _ _ _ _ _ _ _ _ _)
      | (with_reducible exact ih3 _ _ _ _ _ _ _ _ _ _ _ _ _)
      | (with_reducible exact ih4 _ _ _ _ _ _ _ _ _ _ _ _ _)
      | (with_reducible exact ih5 _ _ _ _ _ _ _ _ _ _ _ _ _ _ _ _ _ _ _)
      | (with_reducible exact impl_CongAck.mono _ _ _ _ _ _)
      | (with_reducible exact impl_CongLoss.mono _ _ _ _ _ _)
      | (with_reducible exact impl_CongTimeout.mono _ _ _ _ _ _)
      | (with_reducible exact laws_lwBegin.mono _ _ _)
      | (with_reducible exact LeO.refl _)
      | (with_reducible exact LeO.none _)
      | (with_reducible refine LeO.ite ?_ ?_)
      | (with_reducible refine LeO.bind ?_ (fun _ => ?_))
      | exact ih0 _ _ _ _ _ _ _ _ _
      | exact ih1 _ _ _ _ _ _ _ _ _ _ _ _
      | exact ih2 _ _ _ _ _ _ _ _ _ _ _ _ _ _ _ _ _ _
      | exact ih3 _ _ _ _ _ _ _ _ _ _ _ _ _
      | exact ih4 _ _ _ _ _ _ _ _ _ _ _ _ _
      | exact ih5 _ _ _ _ _ _ _ _ _ _ _ _ _ _ _ _ _ _ _
      | exact impl_CongAck.mono _ _ _ _ _ _
      | exact impl_CongLoss.mono _ _ _ _ _ _
      | exact impl_CongTimeout.mono _ _ _ _ _ _
      | exact laws_lwBegin.mono _ _ _
      | exact LeO.none _
      | refine LeO.ite ?_ ?_
      | refine LeO.bind ?_ (fun _ => ?_)
    · intro y0 y1 y2 y3 y4 y5 y6 y7 y8 y9 y10 y11 y12 y13 y14 y15 y16 y17 y18
      unfold laws_FnWindow.j3
      repeat' first
      | (with_reducible exact ih0 _ _ _ _ _ _ _ _ _)
      | (with_reducible exact ih1 _ _ _ _ _ _ _ _ _ _ _ _)
      | (with_reducible exact ih2 _ _ _ _ _ _ _ _ _ _ _ _ _ _ _ _ _ _)
      | (with_reducible exact ih3 _ _ _ _ _ _ _ _ _ _ _ _ _)
      | (with_reducible exact ih4 _ _ _ _ _ _ _ _ _ _ _ _ _)
      | (with_reducible exact ih5 _ _ _ _ _ _ _ _ _ _ _ _ _ _ _ _ _ _ _)
      | (with_reducible exact impl_CongAck.mono _ _ _ _ _ _)
      | (with_reducible exact impl_CongLoss.mono _ _ _ _ _ _)
      | (with_reducible exact impl_CongTimeout.mono _ _ _ _ _ _)
      | (with_reducible exact laws_lwBegin.mono _ _ _)
      | (with_reducible exact LeO.refl _)
      | (with_reducible exact LeO.none _)
      | (with_reducible refine LeO.ite ?_ ?_)
      | (with_reducible refine LeO.bind ?_ (fun _ => ?_))
      | exact ih0 _ _ _ _ _ _ _ _ _
      | exact ih1 _ _ _ _ _ _ _ _ _ _ _ _
      | exact ih2 _ _ _ _ _ _ _ _ _ _ _ _ _ _ _ _ _ _
      | exact ih3 _ _ _ _ _ _ _ _ _ _ _ _ _
      | exact ih4 _ _ _ _ _ _ _ _ _ _ _ _ _
      | exact ih5 _ _ _ _ _ _ _ _ _ _ _ _ _ _ _ _ _ _ _
      | exact impl_CongAck.mono _ _ _ _ _ _
      | exact impl_CongLoss.mono _ _ _ _ _ _
      | exact impl_CongTimeout.mono _ _ _ _ _ _
      | exact laws_lwBegin.mono _ _ _
      | exact LeO.none _
      | refine LeO.ite ?_ ?_
      | refine LeO.bind ?_ (fun _ => ?_)
theorem laws_FnWindow.mono : ∀ a0 k, LeO (laws_FnWindow.f k a0) (laws_FnWindow.f (k + 1) a0) := by
 intro a0 k
 obtain ⟨ih0, ih1, ih2, ih3, ih4, ih5⟩ := laws_FnWindow.mono_l k
 unfold laws_FnWindow.f
 repeat' first
     | (with_reducible exact ih0 _ _ _ _ _ _ _ _ _)
     | (with_reducible exact ih1 _ _ _ _ _ _ _ _ _ _ _ _)
     | (with_reducible exact ih2 _ _ _ _ _ _ _ _ _ _ _ _ _ _ _ _ _ _)
     | (with_reducible exact ih3 _ _ _ _ _ _ _ _ _ _ _ _ _)
     | (with_reducible exact ih4 _ _ _ _ _ _ _ _ _ _ _ _ _)
     | (with_reducible exact ih5 _ _ _ _ _ _ _ _ _ _ _ _ _ _ _ _ _ _ _)
     | (with_reducible exact impl_CongAck.mono _ _ _ _ _ _)
     | (with_reducible exact impl_CongLoss.mono _ _ _ _ _ _)
     | (with_reducible exact impl_CongTimeout.mono _ _ _ _ _ _)
     | (with_reducible exact laws_lwBegin.mono _ _ _)
     | (with_reducible exact LeO.refl _)
     | (with_reducible exact LeO.none _)
     | (with_reducible refine LeO.ite ?_ ?_)
     | (with_reducible refine LeO.bind ?_ (fun _ => ?_))
     | exact ih0 _ _ _ _ _ _ _ _ _
     | exact ih1 _ _ _ _ _ _ _ _ _ _ _ _
     | exact ih2 _ _ _ _ _ _ _ _ _ _ _ _ _ _ _ _ _ _
     | exact ih3 _ _ _ _ _ _ _ _ _ _ _ _ _
     | exact ih4 _ _ _ _ _ _ _ _ _ _ _ _ _
     | exact ih5 _ _ _ _ _ _ _ _ _ _ _ _ _ _ _ _ _ _ _
     | exact impl_CongAck.mono _ _ _ _ _ _
     | exact impl_CongLoss.mono _ _ _ _ _ _
     | exact impl_CongTimeout.mono _ _ _ _ _ _
     | exact laws_lwBegin.mono _ _ _
     | exact LeO.none _
     | refine LeO.ite ?_ ?_
     | refine LeO.bind ?_ (fun _ => ?_)
set_option maxHeartbeats 60000000 in
set_option maxRecDepth 100000 in
theorem laws_FnWindow.calls (k : Nat) (A0 : Option Addr) (c0 : Nat) (l0 : List Int) (r : Bool) (w : World) (hr0 : Kd.C (Kd.int .u8) w A0 l0.length l0) (hc0 : l0.length ≤ c0) (h : laws_FnWindow.f k l0 = some r) :
 Calls Try.prog 4 #[.slice A0 l0.length c0] w fun e w' => e = .returned (.bool r) ∧ Below w.heap.size w w' := by
 have hu25 := Try.underlying25
 have hu36 := Try.underlying36
 have HR0 := Aside0.mk hr0
 have HC0 := Aside0.mk hc0
 clear hr0 hc0
 have HB := Aside0.mk (Below.refl w.heap.size w)
 have H : (if (l0.length : Int) > 1048576 then (some true) else ((laws_lwBegin.f k l0 12).bind fun bt134 => ((laws_lwNext.f l0 bt134.1 bt134.2 3000).bind fun bt137 => ((impl_NewCong.f (wrap64 (1 + bt137.1))).bind fun bt140 => ((spec_NewCong.f (wrap64 (1 + bt137.1))).bind fun bt146 => (if bt140.2.2.2.2 = 0 then (laws_FnWindow.j0 k (wrap64 (1 + bt137.1)) (!(bt140.1 == bt146.1) || (!(bt140.2.1 == bt146.2.1) || (!(bt140.2.2.1 == bt146.2.2.1) || (!(bt140.2.2.2.1 == bt146.2.2.2.1))))) l0 bt137.2.1 bt137.2.2 bt140.1 bt140.2.1 bt140.2.2.1 bt140.2.2.2.1) else (laws_FnWindow.j0 k (wrap64 (1 + bt137.1)) true l0 bt137.2.1 bt137.2.2 bt140.1 bt140.2.1 bt140.2.2.1 bt140.2.2.2.1))))))) = some r := h
 clear h
 by_cases c2 : (l0.length : Int) > 1048576
 {
 rw [if_pos c2] at H
 have c2b0 : decide (1048576 < (l0.length : Int)) = true := decide_eq_true c2
 have c2b1 : decide (1048576 < l0.length) = true := decide_eq_true (by omega)
 clear c2
 obtain rfl := Option.some.inj H
 go_enter Try.func4, Try.ntmps4
 go_wp2
 go_ret
 exact ⟨by first | rfl | (simp [errW_none, errW_some] <;> rfl) | (simp [*, errW_none, errW_some] <;> rfl), wB⟩
 }
 {
 rw [if_neg c2] at H
 have c2b0 : decide (1048576 < (l0.length : Int)) = false := decide_eq_false c2
 have c2b1 : decide (1048576 < l0.length) = false := decide_eq_false (by omega)
 clear c2
 replace H := Option.bind_eq_some_iff.mp H
 obtain ⟨⟨t134, t135⟩, A30, H⟩ := H
 replace H : ((laws_lwNext.f l0 t134 t135 3000).bind fun bt137 => ((impl_NewCong.f (wrap64 (1 + bt137.1))).bind fun bt140 => ((spec_NewCong.f (wrap64 (1 + bt137.1))).bind fun bt146 => (if bt140.2.2.2.2 = 0 then (laws_FnWindow.j0 k (wrap64 (1 + bt137.1)) (!(bt140.1 == bt146.1) || (!(bt140.2.1 == bt146.2.1) || (!(bt140.2.2.1 == bt146.2.2.1) || (!(bt140.2.2.2.1 == bt146.2.2.2.1))))) l0 bt137.2.1 bt137.2.2 bt140.1 bt140.2.1 bt140.2.2.1 bt140.2.2.2.1) else (laws_FnWindow.j0 k (wrap64 (1 + bt137.1)) true l0 bt137.2.1 bt137.2.2 bt140.1 bt140.2.1 bt140.2.2.1 bt140.2.2.2.1))))) = some r := H
 have A3 := Aside0.mk A30
 clear A30
 replace H := Option.bind_eq_some_iff.mp H
 obtain ⟨⟨t137, t138, t139⟩, A40, H⟩ := H
 replace H : ((impl_NewCong.f (wrap64 (1 + t137))).bind fun bt140 => ((spec_NewCong.f (wrap64 (1 + t137))).bind fun bt146 => (if bt140.2.2.2.2 = 0 then (laws_FnWindow.j0 k (wrap64 (1 + t137)) (!(bt140.1 == bt146.1) || (!(bt140.2.1 == bt146.2.1) || (!(bt140.2.2.1 == bt146.2.2.1) || (!(bt140.2.2.2.1 == bt146.2.2.2.1))))) l0 t138 t139 bt140.1 bt140.2.1 bt140.2.2.1 bt140.2.2.2.1) else (laws_FnWindow.j0 k (wrap64 (1 + t137)) true l0 t138 t139 bt140.1 bt140.2.1 bt140.2.2.1 bt140.2.2.2.1)))) = some r := H
 have A4 := Aside0.mk A40
 clear A40
 replace H := Option.bind_eq_some_iff.mp H
 obtain ⟨⟨t140, t141, t142, t143, t144⟩, A50, H⟩ := H
 replace H : ((spec_NewCong.f (wrap64 (1 + t137))).bind fun bt146 => (if t144 = 0 then (laws_FnWindow.j0 k (wrap64 (1 + t137)) (!(t140 == bt146.1) || (!(t141 == bt146.2.1) || (!(t142 == bt146.2.2.1) || (!(t143 == bt146.2.2.2.1))))) l0 t138 t139 t140 t141 t142 t143) else (laws_FnWindow.j0 k (wrap64 (1 + t137)) true l0 t138 t139 t140 t141 t142 t143))) = some r := H
 have A5 := Aside0.mk A50
 clear A50
 replace H := Option.bind_eq_some_iff.mp H
 obtain ⟨⟨t146, t147, t148, t149, t150⟩, A60, H⟩ := H
 replace H : (if t144 = 0 then (laws_FnWindow.j0 k (wrap64 (1 + t137)) (!(t140 == t146) || (!(t141 == t147) || (!(t142 == t148) || (!(t143 == t149))))) l0 t138 t139 t140 t141 t142 t143) else (laws_FnWindow.j0 k (wrap64 (1 + t137)) true l0 t138 t139 t140 t141 t142 t143)) = some r := H
 have A6 := Aside0.mk A60
 clear A60
 have HC7 := Aside0.mk H
 clear H
 go_enter Try.func4, Try.ntmps4
 go_upto_region 7 with (first | ((with_reducible refine gate_callee (f := 14) rfl ?_); refine goesL_ (some 21) rfl rfl Try.func14 (by kernel_rfl) rfl #[.slice A0 l0.length c0, .int .u64 12] rfl wT ?_; (with_reducible refine (laws_lwBegin.calls k _ _ l0 12 t134 t135 _ ?side1 ?side2 A3.out).mono ?_); (case side1 => repeat (first | exact HR0.out | (with_reducible refine Kd.C_alloc ?_ _) | (with_reducible refine Kd.C_drewN ?_ _) | (with_reducible refine Kd.C_drew ?_))); (case side2 => exact HC0.out); rintro e w8 ⟨rfl, hb⟩; refine ⟨_, rfl, ?_⟩; have n0_ := Aside0.mk (below_step wB hb); clear HB; have HB := n0_; clear n0_; (try clear hb); (try clear hb2); (try clear hk); (try clear hi)) | ((with_reducible refine gate_dst (N := 3) rfl ?_); refine box_event ?hg (N := 3) ?hd (cs := #[.slice none 0 0, .int .i64 0, .int .u64 0]) (t := 25) ?hr ?_; (case hd => rfl); (case hg => rfl); (case hr => first | (go_simp; done) | (go_simp; rfl)); intro gb136 hg w9 hbox hb; have n0_ := Aside0.mk (below_step wB hb); have n1_ := Aside0.mk (hbox); have n2_ := Aside0.mk ((by rw [hg]; exact (below_size wB) : w.heap.size ≤ gb136)); have n3_ := Aside0.mk ((by rw [hg]; exact (below_size wB) : w.heap.size ≤ gb136)); clear HB; have HB := n0_; have BK136 := n1_; have GW136 := n2_; have GE136 := n3_; clear n0_ n1_ n2_ n3_; clear hb hbox hg; obtain ⟨⟨hcz10_0, hcz10_1, hcz10_2⟩, hfz10_0, hfz10_1, hfz10_2⟩ := cells3 BK136.out) | ((with_reducible refine gate_store (t := 25) (p := 3) rfl ?_); refine store_event (t := 25) (p := 3) (v := ?vo_w11) (w1 := (((w9.setCell ⟨gb136, 0, none⟩ (.slice A0 l0.length c0)).setCell ⟨gb136, 1, none⟩ (.int .i64 t134)).setCell ⟨gb136, 2, none⟩ (.int .u64 t135))) ?hg ?ho ?hn ?hr ?_; (case ho => rfl); (case hg => rfl); (case hn => rfl); (case hr => first | (go_simp; done) | (go_simp; rfl)); intro w11 hw; have n0_ : Aside0 (w11.heap[gb136]? = some (.cells #[.slice A0 l0.length c0, .int .i64 t134, .int .u64 t135] 25 (0, 0))) := ⟨(by rw [hw]; exact (by (with_reducible repeat (first | refine blk_drewN ?_ _ | refine blk_drew ?_ | refine blk_alloc ?_ _)); refine blk_put (cs := #[.slice A0 l0.length c0, .int .i64 t134, .int .u64 0]) ?_ 2 _ rfl; (with_reducible repeat (first | refine blk_drewN ?_ _ | refine blk_drew ?_ | refine blk_alloc ?_ _)); refine blk_put (cs := #[.slice A0 l0.length c0, .int .i64 0, .int .u64 0]) ?_ 1 _ rfl; (with_reducible repeat (first | refine blk_drewN ?_ _ | refine blk_drew ?_ | refine blk_alloc ?_ _)); refine blk_put (cs := #[.slice none 0 0, .int .i64 0, .int .u64 0]) ?_ 0 _ rfl; (with_reducible repeat (first | refine blk_drewN ?_ _ | refine blk_drew ?_ | refine blk_alloc ?_ _)); exact BK136.out))⟩; have n1_ : Aside0 (Below w.heap.size w w11) := ⟨(by rw [hw]; exact wB)⟩; clear hw; clear BK136; clear HB; have BK136 := n0_; have HB := n1_; clear n0_ n1_; have HI136 := Aside0.mk (show IsS25 w w11 gb136 l0 t134 t135 from ⟨_, _, by (with_reducible repeat (first | refine blk_drewN ?_ _ | refine blk_drew ?_ | refine blk_alloc ?_ _)); exact BK136.out, GW136.out, HR0.out⟩)) | ((with_reducible refine gate_callee (f := 16) rfl ?_); refine goesL_ (some 22) rfl rfl Try.func16 (by kernel_rfl) rfl #[.pointer (some ⟨gb136, 0, none⟩), .int .i64 3000] rfl wT ?_; (with_reducible refine (laws_lwNext.calls gb136 l0 t134 t135 3000 t137 t138 t139 w _ ?side1 ?side2 A4.out).mono ?_); (case side1 => repeat (first | (with_reducible first | exact HI136.out | apply IsS25.alloc | apply IsS25.drewN | apply IsS25.drew | apply IsS25.set_1 | apply IsS25.set_2) | exact HI136.out)); (case side2 => repeat (first | (with_reducible first | exact HB.out | apply below_alloc | apply pw_below_drewN | apply below_drew1 | refine below_set ?_ (IsS25.ge HI136.out)) | exact HB.out)); rintro e w12 ⟨rfl, hi, hb, hk⟩; refine ⟨_, rfl, ?_⟩; have n0_ := Aside0.mk (hb); have n1_ := Aside0.mk (hi); clear HB; clear HI136; have HB := n0_; have HI136 := n1_; clear n0_ n1_; (try clear hb); (try clear hb2); (try clear hk); (try clear hi)) | ((with_reducible refine gate_callee (f := 21) rfl ?_); refine goesL_ (some 26) rfl rfl Try.func21 (by kernel_rfl) rfl #[.int .i64 (wrap64 (1 + t137))] rfl wT ?_; (with_reducible refine (impl_NewCong.calls (wrap64 (1 + t137)) t140 t141 t142 t143 t144 _ A5.out).mono ?_); rintro e w13 ⟨rfl, hb⟩; refine ⟨_, rfl, ?_⟩; have n0_ := Aside0.mk (IsS25.below (by repeat (first | (with_reducible first | exact HI136.out | apply IsS25.alloc | apply IsS25.drewN | apply IsS25.drew | apply IsS25.set_1 | apply IsS25.set_2) | exact HI136.out)) hb); have n1_ := Aside0.mk (below_step (by repeat (first | (with_reducible first | exact HB.out | apply below_alloc | apply pw_below_drewN | apply below_drew1 | refine below_set ?_ (IsS25.ge HI136.out)) | exact HB.out)) hb); clear HI136; clear HB; have HI136 := n0_; have HB := n1_; clear n0_ n1_; (try clear hb); (try clear hb2); (try clear hk); (try clear hi)) | ((with_reducible refine gate_dst (N := 5) rfl ?_); refine box_event ?hg (N := 5) ?hd (cs := #[.int .i64 0, .int .i64 0, .int .i64 0, .int .i64 0]) (t := 36) ?hr ?_; (case hd => rfl); (case hg => rfl); (case hr => first | (go_simp; done) | (go_simp; rfl)); intro gb145 hg w14 hbox hb; have n0_ := Aside0.mk (IsS25.below (by repeat (first | (with_reducible first | exact HI136.out | apply IsS25.alloc | apply IsS25.drewN | apply IsS25.drew | apply IsS25.set_1 | apply IsS25.set_2) | exact HI136.out)) hb); have n1_ := Aside0.mk (below_step (by repeat (first | (with_reducible first | exact HB.out | apply below_alloc | apply pw_below_drewN | apply below_drew1 | refine below_set ?_ (IsS25.ge HI136.out)) | exact HB.out)) hb); have n2_ := Aside0.mk (hbox); have n3_ := Aside0.mk ((by rw [hg]; exact (below_size (by repeat (first | (with_reducible first | exact HB.out | apply below_alloc | apply pw_below_drewN | apply below_drew1 | refine below_set ?_ (IsS25.ge HI136.out)) | exact HB.out))) : w.heap.size ≤ gb145)); have n4_ := Aside0.mk ((by rw [hg]; exact (below_size (by repeat (first | (with_reducible first | exact HB.out | apply below_alloc | apply pw_below_drewN | apply below_drew1 | refine below_set ?_ (IsS25.ge HI136.out)) | exact HB.out))) : w.heap.size ≤ gb145)); have n5_ := Aside0.mk ((by rw [hg]; exact Nat.ne_of_lt (IsS25.lt (show IsS25 w _ gb136 l0 t138 t139 from by repeat (first | (with_reducible first | exact HI136.out | apply IsS25.alloc | apply IsS25.drewN | apply IsS25.drew | apply IsS25.set_1 | apply IsS25.set_2) | exact HI136.out))) : gb136 ≠ gb145)); have n6_ := Aside0.mk ((by rw [hg]; exact Nat.ne_of_gt (IsS25.lt (show IsS25 w _ gb136 l0 t138 t139 from by repeat (first | (with_reducible first | exact HI136.out | apply IsS25.alloc | apply IsS25.drewN | apply IsS25.drew | apply IsS25.set_1 | apply IsS25.set_2) | exact HI136.out))) : gb145 ≠ gb136)); clear HI136; clear HB; have HI136 := n0_; have HB := n1_; have BK145 := n2_; have GW145 := n3_; have GE145 := n4_; have NB136_145 := n5_; have NB145_136 := n6_; clear n0_ n1_ n2_ n3_ n4_ n5_ n6_; clear hb hbox hg; have hnb15 := NB145_136.out; have hnc15 := NB136_145.out; obtain ⟨⟨hcz16_0, hcz16_1, hcz16_2, hcz16_3⟩, hfz16_0, hfz16_1, hfz16_2, hfz16_3⟩ := cells4 BK145.out) | ((with_reducible refine gate_store (t := 36) (p := 5) rfl ?_); refine store_event (t := 36) (p := 5) (v := ?vo_w17) (w1 := ((((w14.setCell ⟨gb145, 0, none⟩ (.int .i64 t140)).setCell ⟨gb145, 1, none⟩ (.int .i64 t141)).setCell ⟨gb145, 2, none⟩ (.int .i64 t142)).setCell ⟨gb145, 3, none⟩ (.int .i64 t143))) ?hg ?ho ?hn ?hr ?_; (case ho => rfl); (case hg => rfl); (case hn => rfl); (case hr => first | (go_simp; done) | (go_simp; rfl)); intro w17 hw; have n0_ : Aside0 (w17.heap[gb145]? = some (.cells #[.int .i64 t140, .int .i64 t141, .int .i64 t142, .int .i64 t143] 36 (0, 0))) := ⟨(by rw [hw]; exact (by (with_reducible repeat (first | refine blk_drewN ?_ _ | refine blk_drew ?_ | refine blk_alloc ?_ _)); refine blk_put (cs := #[.int .i64 t140, .int .i64 t141, .int .i64 t142, .int .i64 0]) ?_ 3 _ rfl; (with_reducible repeat (first | refine blk_drewN ?_ _ | refine blk_drew ?_ | refine blk_alloc ?_ _)); refine blk_put (cs := #[.int .i64 t140, .int .i64 t141, .int .i64 0, .int .i64 0]) ?_ 2 _ rfl; (with_reducible repeat (first | refine blk_drewN ?_ _ | refine blk_drew ?_ | refine blk_alloc ?_ _)); refine blk_put (cs := #[.int .i64 t140, .int .i64 0, .int .i64 0, .int .i64 0]) ?_ 1 _ rfl; (with_reducible repeat (first | refine blk_drewN ?_ _ | refine blk_drew ?_ | refine blk_alloc ?_ _)); refine blk_put (cs := #[.int .i64 0, .int .i64 0, .int .i64 0, .int .i64 0]) ?_ 0 _ rfl; (with_reducible repeat (first | refine blk_drewN ?_ _ | refine blk_drew ?_ | refine blk_alloc ?_ _)); exact BK145.out))⟩; have n1_ : Aside0 (IsS25 w w17 gb136 l0 t138 t139) := ⟨(by rw [hw]; exact (by repeat (first | (with_reducible first | exact HI136.out | apply IsS25.alloc | apply IsS25.drewN | apply IsS25.drew | apply IsS25.set_1 | apply IsS25.set_2 | refine IsS25.far ?_ NB136_145.out _) | exact HI136.out)))⟩; have n2_ : Aside0 (Below w.heap.size w w17) := ⟨(by rw [hw]; exact (by repeat (first | (with_reducible first | exact HB.out | apply below_alloc | apply pw_below_drewN | apply below_drew1 | refine below_set ?_ (IsS25.ge HI136.out) | refine below_set ?_ GE145.out) | exact HB.out)))⟩; clear hw; clear BK145; clear HI136; clear HB; have BK145 := n0_; have HI136 := n1_; have HB := n2_; clear n0_ n1_ n2_) | ((with_reducible refine gate_callee (f := 22) rfl ?_); refine goesL_ (some 31) rfl rfl Try.func22 (by kernel_rfl) rfl #[.int .i64 (wrap64 (1 + t137))] rfl wT ?_; (with_reducible refine (spec_NewCong.calls (wrap64 (1 + t137)) t146 t147 t148 t149 t150 _ A6.out).mono ?_); rintro e w18 ⟨rfl, hb⟩; refine ⟨_, rfl, ?_⟩; have n0_ := Aside0.mk (IsS25.below (by repeat (first | (with_reducible first | exact HI136.out | apply IsS25.alloc | apply IsS25.drewN | apply IsS25.drew | apply IsS25.set_1 | apply IsS25.set_2 | refine IsS25.far ?_ NB136_145.out _) | exact HI136.out)) hb); have n1_ := Aside0.mk (blk_below (Bh BK145) hb); have n2_ := Aside0.mk (below_step (by repeat (first | (with_reducible first | exact HB.out | apply below_alloc | apply pw_below_drewN | apply below_drew1 | refine below_set ?_ (IsS25.ge HI136.out) | refine below_set ?_ GE145.out) | exact HB.out)) hb); clear HI136; clear BK145; clear HB; have HI136 := n0_; have BK145 := n1_; have HB := n2_; clear n0_ n1_ n2_; (try clear hb); (try clear hb2); (try clear hk); (try clear hi)) | ((with_reducible refine gate_dst (N := 7) rfl ?_); refine box_event ?hg (N := 7) ?hd (cs := #[.int .i64 0, .int .i64 0, .int .i64 0, .int .i64 0]) (t := 36) ?hr ?_; (case hd => rfl); (case hg => rfl); (case hr => first | (go_simp; done) | (go_simp; rfl)); intro gb151 hg w19 hbox hb; have n0_ := Aside0.mk (IsS25.below (by repeat (first | (with_reducible first | exact HI136.out | apply IsS25.alloc | apply IsS25.drewN | apply IsS25.drew | apply IsS25.set_1 | apply IsS25.set_2 | refine IsS25.far ?_ NB136_145.out _) | exact HI136.out)) hb); have n1_ := Aside0.mk (blk_below (Bh BK145) hb); have n2_ := Aside0.mk (below_step (by repeat (first | (with_reducible first | exact HB.out | apply below_alloc | apply pw_below_drewN | apply below_drew1 | refine below_set ?_ (IsS25.ge HI136.out) | refine below_set ?_ GE145.out) | exact HB.out)) hb); have n3_ := Aside0.mk (hbox); have n4_ := Aside0.mk ((by rw [hg]; exact (below_size (by repeat (first | (with_reducible first | exact HB.out | apply below_alloc | apply pw_below_drewN | apply below_drew1 | refine below_set ?_ (IsS25.ge HI136.out) | refine below_set ?_ GE145.out) | exact HB.out))) : w.heap.size ≤ gb151)); have n5_ := Aside0.mk ((by rw [hg]; exact (below_size (by repeat (first | (with_reducible first | exact HB.out | apply below_alloc | apply pw_below_drewN | apply below_drew1 | refine below_set ?_ (IsS25.ge HI136.out) | refine below_set ?_ GE145.out) | exact HB.out))) : w.heap.size ≤ gb151)); have n6_ := Aside0.mk ((by rw [hg]; exact Nat.ne_of_lt (blk_lt (Bh BK145)) : gb145 ≠ gb151)); have n7_ := Aside0.mk ((by rw [hg]; exact Nat.ne_of_gt (blk_lt (Bh BK145)) : gb151 ≠ gb145)); have n8_ := Aside0.mk ((by rw [hg]; exact Nat.ne_of_lt (IsS25.lt (show IsS25 w _ gb136 l0 t138 t139 from by repeat (first | (with_reducible first | exact HI136.out | apply IsS25.alloc | apply IsS25.drewN | apply IsS25.drew | apply IsS25.set_1 | apply IsS25.set_2 | refine IsS25.far ?_ NB136_145.out _) | exact HI136.out))) : gb136 ≠ gb151)); have n9_ := Aside0.mk ((by rw [hg]; exact Nat.ne_of_gt (IsS25.lt (show IsS25 w _ gb136 l0 t138 t139 from by repeat (first | (with_reducible first | exact HI136.out | apply IsS25.alloc | apply IsS25.drewN | apply IsS25.drew | apply IsS25.set_1 | apply IsS25.set_2 | refine IsS25.far ?_ NB136_145.out _) | exact HI136.out))) : gb151 ≠ gb136)); clear HI136; clear BK145; clear HB; have HI136 := n0_; have BK145 := n1_; have HB := n2_; have BK151 := n3_; have GW151 := n4_; have GE151 := n5_; have NB145_151 := n6_; have NB151_145 := n7_; have NB136_151 := n8_; have NB151_136 := n9_; clear n0_ n1_ n2_ n3_ n4_ n5_ n6_ n7_ n8_ n9_; clear hb hbox hg; have hnb20 := NB151_145.out; have hnc20 := NB145_151.out; have hnb21 := NB151_136.out; have hnc21 := NB136_151.out; obtain ⟨⟨hcz22_0, hcz22_1, hcz22_2, hcz22_3⟩, hfz22_0, hfz22_1, hfz22_2, hfz22_3⟩ := cells4 BK151.out) | ((with_reducible refine gate_store (t := 36) (p := 7) rfl ?_); refine store_event (t := 36) (p := 7) (v := ?vo_w23) (w1 := ((((w19.setCell ⟨gb151, 0, none⟩ (.int .i64 t146)).setCell ⟨gb151, 1, none⟩ (.int .i64 t147)).setCell ⟨gb151, 2, none⟩ (.int .i64 t148)).setCell ⟨gb151, 3, none⟩ (.int .i64 t149))) ?hg ?ho ?hn ?hr ?_; (case ho => rfl); (case hg => rfl); (case hn => rfl); (case hr => first | (go_simp; done) | (go_simp; rfl)); intro w23 hw; have n0_ : Aside0 (w23.heap[gb145]? = some (.cells #[.int .i64 t140, .int .i64 t141, .int .i64 t142, .int .i64 t143] 36 (0, 0))) := ⟨(by rw [hw]; exact (by (with_reducible repeat (first | refine blk_drewN ?_ _ | refine blk_drew ?_ | refine blk_alloc ?_ _)); refine blk_far ?_ NB145_151.out _; (with_reducible repeat (first | refine blk_drewN ?_ _ | refine blk_drew ?_ | refine blk_alloc ?_ _)); refine blk_far ?_ NB145_151.out _; (with_reducible repeat (first | refine blk_drewN ?_ _ | refine blk_drew ?_ | refine blk_alloc ?_ _)); refine blk_far ?_ NB145_151.out _; (with_reducible repeat (first | refine blk_drewN ?_ _ | refine blk_drew ?_ | refine blk_alloc ?_ _)); refine blk_far ?_ NB145_151.out _; (with_reducible repeat (first | refine blk_drewN ?_ _ | refine blk_drew ?_ | refine blk_alloc ?_ _)); exact BK145.out))⟩; have n1_ : Aside0 (w23.heap[gb151]? = some (.cells #[.int .i64 t146, .int .i64 t147, .int .i64 t148, .int .i64 t149] 36 (0, 0))) := ⟨(by rw [hw]; exact (by (with_reducible repeat (first | refine blk_drewN ?_ _ | refine blk_drew ?_ | refine blk_alloc ?_ _)); refine blk_put (cs := #[.int .i64 t146, .int .i64 t147, .int .i64 t148, .int .i64 0]) ?_ 3 _ rfl; (with_reducible repeat (first | refine blk_drewN ?_ _ | refine blk_drew ?_ | refine blk_alloc ?_ _)); refine blk_put (cs := #[.int .i64 t146, .int .i64 t147, .int .i64 0, .int .i64 0]) ?_ 2 _ rfl; (with_reducible repeat (first | refine blk_drewN ?_ _ | refine blk_drew ?_ | refine blk_alloc ?_ _)); refine blk_put (cs := #[.int .i64 t146, .int .i64 0, .int .i64 0, .int .i64 0]) ?_ 1 _ rfl; (with_reducible repeat (first | refine blk_drewN ?_ _ | refine blk_drew ?_ | refine blk_alloc ?_ _)); refine blk_put (cs := #[.int .i64 0, .int .i64 0, .int .i64 0, .int .i64 0]) ?_ 0 _ rfl; (with_reducible repeat (first | refine blk_drewN ?_ _ | refine blk_drew ?_ | refine blk_alloc ?_ _)); exact BK151.out))⟩; have n2_ : Aside0 (IsS25 w w23 gb136 l0 t138 t139) := ⟨(by rw [hw]; exact (by repeat (first | (with_reducible first | exact HI136.out | apply IsS25.alloc | apply IsS25.drewN | apply IsS25.drew | apply IsS25.set_1 | apply IsS25.set_2 | refine IsS25.far ?_ NB136_145.out _ | refine IsS25.far ?_ NB136_151.out _) | exact HI136.out)))⟩; have n3_ : Aside0 (Below w.heap.size w w23) := ⟨(by rw [hw]; exact (by repeat (first | (with_reducible first | exact HB.out | apply below_alloc | apply pw_below_drewN | apply below_drew1 | refine below_set ?_ (IsS25.ge HI136.out) | refine below_set ?_ GE145.out | refine below_set ?_ GE151.out) | exact HB.out)))⟩; clear hw; clear BK145; clear BK151; clear HI136; clear HB; have BK145 := n0_; have BK151 := n1_; have HI136 := n2_; have HB := n3_; clear n0_ n1_ n2_ n3_))
 (try simp only [Act.put, List.setIfInBounds_toArray, List.set_cons_zero, List.set_cons_succ])
 go_cut [40] (fun v40 wc => ∃ (kq : Nat) (x40_6 : Bool), v40 = .bool x40_6 ∧ Aside0 (laws_FnWindow.j0 kq (wrap64 (1 + t137)) x40_6 l0 t138 t139 t140 t141 t142 t143 = some r) ∧ Aside0 (kq ≤ k) ∧ Aside0 (wc.heap[gb145]? = some (.cells #[.int .i64 t140, .int .i64 t141, .int .i64 t142, .int .i64 t143] 36 (0, 0))) ∧ Aside0 (wc.heap[gb151]? = some (.cells #[.int .i64 t146, .int .i64 t147, .int .i64 t148, .int .i64 t149] 36 (0, 0))) ∧ Aside0 (IsS25 w wc gb136 l0 t138 t139) ∧ Aside0 (Below w.heap.size w wc))
 case first => as_aux_lemma => (
 have H := HC7.out
 clear HC7
 by_cases c24 : t144 = 0
 {
 rw [if_pos c24] at H
 have c24b0 : (t144 == 0) = true := beq_iff_eq.mpr c24
 have c24b1 : (t144 != 0) = false := bne_eq_false_iff_eq.mpr c24
 clear c24
 (first | rw [c24b0] | (simp only [i64_w, i32_w]; rw [c24b0]) | skip)
 have H' := Aside0.mk H
 clear H
 have hnb25 := NB145_151.out
 have hnc25 := NB151_145.out
 have hnb26 := NB145_136.out
 have hnc26 := NB136_145.out
 obtain ⟨⟨hcz27_0, hcz27_1, hcz27_2, hcz27_3⟩, hfz27_0, hfz27_1, hfz27_2, hfz27_3⟩ := cells4 BK145.out
 have hnb28 := NB151_136.out
 have hnc28 := NB136_151.out
 obtain ⟨⟨hcz29_0, hcz29_1, hcz29_2, hcz29_3⟩, hfz29_0, hfz29_1, hfz29_2, hfz29_3⟩ := cells4 BK151.out
 go_wp2
 go_meet
 case rel => exact ⟨_, ((!(t140 == t146) || (!(t141 == t147) || (!(t142 == t148) || (!(t143 == t149)))))), (by first | rfl | (simp; done) | (simp [*]; done)), H', ⟨by first | omega | exact Nat.le_refl _⟩, ⟨Bh BK145⟩, ⟨Bh BK151⟩, ⟨by repeat (first | (with_reducible first | exact HI136.out | apply IsS25.alloc | apply IsS25.drewN | apply IsS25.drew | apply IsS25.set_1 | apply IsS25.set_2 | refine IsS25.far ?_ NB136_145.out _ | refine IsS25.far ?_ NB136_151.out _) | exact HI136.out)⟩, ⟨by repeat (first | (with_reducible first | exact HB.out | apply below_alloc | apply pw_below_drewN | apply below_drew1 | refine below_set ?_ (IsS25.ge HI136.out) | refine below_set ?_ GE145.out | refine below_set ?_ GE151.out) | exact HB.out)⟩⟩
 }
 {
 rw [if_neg c24] at H
 have c24b0 : (t144 == 0) = false := beq_eq_false_iff_ne.mpr c24
 have c24b1 : (t144 != 0) = true := bne_iff_ne.mpr c24
 (first | rw [c24b0] | (simp only [i64_w, i32_w]; rw [c24b0]) | skip)
 have H' := Aside0.mk H
 clear H
 go_wp2
 go_meet
 case rel => exact ⟨_, (true), (by first | rfl | (simp; done) | (simp [*]; done)), H', ⟨by first | omega | exact Nat.le_refl _⟩, ⟨Bh BK145⟩, ⟨Bh BK151⟩, ⟨by repeat (first | (with_reducible first | exact HI136.out | apply IsS25.alloc | apply IsS25.drewN | apply IsS25.drew | apply IsS25.set_1 | apply IsS25.set_2 | refine IsS25.far ?_ NB136_145.out _ | refine IsS25.far ?_ NB136_151.out _) | exact HI136.out)⟩, ⟨by repeat (first | (with_reducible first | exact HB.out | apply below_alloc | apply pw_below_drewN | apply below_drew1 | refine below_set ?_ (IsS25.ge HI136.out) | refine below_set ?_ GE145.out | refine below_set ?_ GE151.out) | exact HB.out)⟩⟩
 }
 )
 case rest => as_aux_lemma => (
 clear HC7
 try clear c1
 try clear c2
 try clear c2b0
 try clear c2b1
 try clear p2
 try clear c4
 try clear p6
 try clear c14
 try clear c15
 try clear c16
 try clear c20
 try clear c21
 try clear c22
 try clear c24
 try clear c24b0
 try clear c24b1
 try clear c25
 try clear c26
 try clear c28
 try clear hcz10_0 hcz10_1 hcz10_2 hfz10_0 hfz10_1 hfz10_2
 try clear hcz16_0 hcz16_1 hcz16_2 hcz16_3 hfz16_0 hfz16_1 hfz16_2 hfz16_3
 try clear hcz22_0 hcz22_1 hcz22_2 hcz22_3 hfz22_0 hfz22_1 hfz22_2 hfz22_3
 try clear hcz27_0 hcz27_1 hcz27_2 hcz27_3 hfz27_0 hfz27_1 hfz27_2 hfz27_3
 try clear hcz29_0 hcz29_1 hcz29_2 hcz29_3 hfz29_0 hfz29_1 hfz29_2 hfz29_3
 obtain ⟨kq, x40_6, rfl, HA, HJ6, BK145, BK151, HI136, HB⟩ := hcut
 cases kq with
 | zero => exact absurd HA.out (by simp [laws_FnWindow.j0])
 | succ kj6 => {
 have H := HA.out
 clear HA
 simp only [laws_FnWindow.j0] at H
 by_cases c30 : x40_6 = true
 {
 subst c30
 have H1 : (some false) = some r := by rw [if_pos rfl] at H; exact H
 clear H
 have H := H1
 clear H1
 obtain rfl := Option.some.inj H
 go_wp2
 go_ret
 exact ⟨by first | rfl | (simp [errW_none, errW_some] <;> rfl) | (simp [*, errW_none, errW_some] <;> rfl), by repeat (first | (with_reducible first | exact HB.out | apply below_alloc | apply pw_below_drewN | apply below_drew1 | refine below_set ?_ (IsS25.ge HI136.out) | refine below_set ?_ GE145.out | refine below_set ?_ GE151.out) | exact HB.out)⟩
 }
 {
 replace c30 := Bool.eq_false_iff.mpr c30
 subst c30
 have H1 : ((laws_lwNext.f l0 t138 t139 40).bind fun bt152 => (laws_FnWindow.l0 kj6 (wrap64 (1 + t137)) t141 0 t141 (wrap64 (bt152.1 + 1)) l0 bt152.2.1 bt152.2.2 t140 t141 t142 t143)) = some r := by rw [if_neg (show ¬ (false = true) by decide)] at H; exact H
 clear H
 have H := H1
 clear H1
 replace H := Option.bind_eq_some_iff.mp H
 obtain ⟨⟨t152, t153, t154⟩, A310, H⟩ := H
 replace H : (laws_FnWindow.l0 kj6 (wrap64 (1 + t137)) t141 0 t141 (wrap64 (t152 + 1)) l0 t153 t154 t140 t141 t142 t143) = some r := H
 have A31 := Aside0.mk A310
 clear A310
 have H' := Aside0.mk H
 clear H
 have hnb32 := NB145_151.out
 have hnc32 := NB151_145.out
 have hnb33 := NB145_136.out
 have hnc33 := NB136_145.out
 obtain ⟨⟨hcz34_0, hcz34_1, hcz34_2, hcz34_3⟩, hfz34_0, hfz34_1, hfz34_2, hfz34_3⟩ := cells4 BK145.out
 go_wp2_with (first | ((with_reducible refine gate_callee (f := 16) rfl ?_); refine goesL_ (some 44) rfl rfl Try.func16 (by kernel_rfl) rfl #[.pointer (some ⟨gb136, 0, none⟩), .int .i64 40] rfl wT ?_; (with_reducible refine (laws_lwNext.calls gb136 l0 t138 t139 40 t152 t153 t154 w _ ?side1 ?side2 A31.out).mono ?_); (case side1 => repeat (first | (with_reducible first | exact HI136.out | apply IsS25.alloc | apply IsS25.drewN | apply IsS25.drew | apply IsS25.set_1 | apply IsS25.set_2 | refine IsS25.far ?_ NB136_145.out _ | refine IsS25.far ?_ NB136_151.out _) | exact HI136.out)); (case side2 => repeat (first | (with_reducible first | exact HB.out | apply below_alloc | apply pw_below_drewN | apply below_drew1 | refine below_set ?_ (IsS25.ge HI136.out) | refine below_set ?_ GE145.out | refine below_set ?_ GE151.out) | exact HB.out)); rintro e w35 ⟨rfl, hi, hb, hk⟩; refine ⟨_, rfl, ?_⟩; have n0_ := Aside0.mk (KeepBut.blk hk (g' := gb145) (o := .cells #[.int .i64 t140, .int .i64 t141, .int .i64 t142, .int .i64 t143] 36 (0, 0)) (Bh BK145) NB145_136.out (by simp)); have n1_ := Aside0.mk (KeepBut.blk hk (g' := gb151) (o := .cells #[.int .i64 t146, .int .i64 t147, .int .i64 t148, .int .i64 t149] 36 (0, 0)) (Bh BK151) NB151_136.out (by simp)); have n2_ := Aside0.mk (hb); have n3_ := Aside0.mk (hi); clear BK145; clear BK151; clear HB; clear HI136; have BK145 := n0_; have BK151 := n1_; have HB := n2_; have HI136 := n3_; clear n0_ n1_ n2_ n3_; (try clear hb); (try clear hb2); (try clear hk); (try clear hi)))
 go_loopg [10, 11, 12] kj6 (fun kq v10 v11 v12 w' => ∃ (x10_2 : Int) (x11_2 : Int) (x12_2 : Int) (x137001_2 : Int) (x137002_2 : Int) (x146000_2 : Int) (x146001_2 : Int) (x146002_2 : Int) (x146003_2 : Int), v10 = .int .i64 x10_2 ∧ v11 = .int .i64 x11_2 ∧ v12 = .int .i64 x12_2 ∧ Aside0 (laws_FnWindow.l0 kq (wrap64 (1 + t137)) t141 x10_2 x11_2 x12_2 l0 x137001_2 x137002_2 x146000_2 x146001_2 x146002_2 x146003_2 = some r) ∧ Aside0 (kq ≤ kj6) ∧ Aside0 (w'.heap[gb145]? = some (.cells #[.int .i64 x146000_2, .int .i64 x146001_2, .int .i64 x146002_2, .int .i64 x146003_2] 36 (0, 0))) ∧ Aside0 (w'.heap[gb151]? = some (.cells #[.int .i64 t146, .int .i64 t147, .int .i64 t148, .int .i64 t149] 36 (0, 0))) ∧ Aside0 (IsS25 w w' gb136 l0 x137001_2 x137002_2) ∧ Aside0 (Below w.heap.size w w'))
 case atStart => exact ⟨(0), (t141), (wrap64 (t152 + 1)), (t153), (t154), (t140), (t141), (t142), (t143), (by first | rfl | (simp; done) | (simp [*]; done)), (by first | rfl | (simp; done) | (simp [*]; done)), (by first | rfl | (simp; done) | (simp [*]; done)), H', ⟨Nat.le_refl _⟩, ⟨Bh BK145⟩, ⟨Bh BK151⟩, ⟨by repeat (first | (with_reducible first | exact HI136.out | apply IsS25.alloc | apply IsS25.drewN | apply IsS25.drew | apply IsS25.set_1 | apply IsS25.set_2 | refine IsS25.far ?_ NB136_145.out _ | refine IsS25.far ?_ NB136_151.out _) | exact HI136.out)⟩, ⟨by repeat (first | (with_reducible first | exact HB.out | apply below_alloc | apply pw_below_drewN | apply below_drew1 | refine below_set ?_ (IsS25.ge HI136.out) | refine below_set ?_ GE145.out | refine below_set ?_ GE151.out) | exact HB.out)⟩⟩
 case round => (
 clear H'
 try clear c1
 try clear c2
 try clear c2b0
 try clear c2b1
 try clear p2
 try clear c3
 try clear c4
 try clear p6
 try clear c14
 try clear c15
 try clear c16
 try clear c20
 try clear c21
 try clear c22
 try clear c24
 try clear c24b0
 try clear c24b1
 try clear c25
 try clear c26
 try clear c28
 try clear c30
 try clear c32
 try clear c33
 try clear hcz10_0 hcz10_1 hcz10_2 hfz10_0 hfz10_1 hfz10_2
 try clear hcz16_0 hcz16_1 hcz16_2 hcz16_3 hfz16_0 hfz16_1 hfz16_2 hfz16_3
 try clear hcz22_0 hcz22_1 hcz22_2 hcz22_3 hfz22_0 hfz22_1 hfz22_2 hfz22_3
 try clear hcz27_0 hcz27_1 hcz27_2 hcz27_3 hfz27_0 hfz27_1 hfz27_2 hfz27_3
 try clear hcz29_0 hcz29_1 hcz29_2 hcz29_3 hfz29_0 hfz29_1 hfz29_2 hfz29_3
 try clear hcz34_0 hcz34_1 hcz34_2 hcz34_3 hfz34_0 hfz34_1 hfz34_2 hfz34_3
 try clear p2
 try clear p6
 obtain ⟨x10_2, x11_2, x12_2, x137001_2, x137002_2, x146000_2, x146001_2, x146002_2, x146003_2, rfl, rfl, rfl, HA, HK2, BK145, BK151, HI136, HB⟩ := hrel
 cases gk with
 | zero => exact absurd HA.out (by simp [laws_FnWindow.l0])
 | succ k2 => {
 have H := HA.out
 clear HA
 simp only [laws_FnWindow.l0] at H
 by_cases c36 : x12_2 > 0
 {
 rw [if_pos c36] at H
 have c36b0 : decide (0 < x12_2) = true := decide_eq_true c36
 clear c36
 replace H := Option.bind_eq_some_iff.mp H
 obtain ⟨⟨t156, t157, t158⟩, A370, H⟩ := H
 replace H : (if (wrap64 (Int.tdiv t156 2)) < (wrap64 (2 * (wrap64 (1 + t137)))) then (laws_FnWindow.j2 k2 (wrap64 (1 + t137)) t141 x10_2 x11_2 x12_2 t156 (wrap64 (2 * (wrap64 (1 + t137)))) l0 t157 t158 x146000_2 x146001_2 x146002_2 x146003_2 x146000_2 x146001_2 x146002_2 x146003_2) else (laws_FnWindow.j2 k2 (wrap64 (1 + t137)) t141 x10_2 x11_2 x12_2 t156 (wrap64 (Int.tdiv t156 2)) l0 t157 t158 x146000_2 x146001_2 x146002_2 x146003_2 x146000_2 x146001_2 x146002_2 x146003_2)) = some r := H
 have A37 := Aside0.mk A370
 clear A370
 have HC38 := Aside0.mk H
 clear H
 have hnb39 := NB145_151.out
 have hnc39 := NB151_145.out
 have hnb40 := NB145_136.out
 have hnc40 := NB136_145.out
 obtain ⟨⟨hcz41_0, hcz41_1, hcz41_2, hcz41_3⟩, hfz41_0, hfz41_1, hfz41_2, hfz41_3⟩ := cells4 BK145.out
 go_upto_if 57 with (first | ((with_reducible refine gate_dst (N := 13) rfl ?_); refine box_event ?hg (N := 13) ?hd (cs := #[.int .i64 0, .int .i64 0, .int .i64 0, .int .i64 0]) (t := 36) ?hr ?_; (case hd => rfl); (case hg => rfl); (case hr => first | (go_simp; done) | (go_simp; rfl)); intro gb155 hg w42 hbox hb; have n0_ := Aside0.mk (blk_below (Bh BK145) hb); have n1_ := Aside0.mk (blk_below (Bh BK151) hb); have n2_ := Aside0.mk (IsS25.below (by repeat (first | (with_reducible first | exact HI136.out | apply IsS25.alloc | apply IsS25.drewN | apply IsS25.drew | apply IsS25.set_1 | apply IsS25.set_2 | refine IsS25.far ?_ NB136_145.out _ | refine IsS25.far ?_ NB136_151.out _) | exact HI136.out)) hb); have n3_ := Aside0.mk (below_step (by repeat (first | (with_reducible first | exact HB.out | apply below_alloc | apply pw_below_drewN | apply below_drew1 | refine below_set ?_ (IsS25.ge HI136.out) | refine below_set ?_ GE145.out | refine below_set ?_ GE151.out) | exact HB.out)) hb); have n4_ := Aside0.mk (hbox); have n5_ := Aside0.mk ((by rw [hg]; exact (below_size (by repeat (first | (with_reducible first | exact HB.out | apply below_alloc | apply pw_below_drewN | apply below_drew1 | refine below_set ?_ (IsS25.ge HI136.out) | refine below_set ?_ GE145.out | refine below_set ?_ GE151.out) | exact HB.out))) : w.heap.size ≤ gb155)); have n6_ := Aside0.mk ((by rw [hg]; exact (below_size (by repeat (first | (with_reducible first | exact HB.out | apply below_alloc | apply pw_below_drewN | apply below_drew1 | refine below_set ?_ (IsS25.ge HI136.out) | refine below_set ?_ GE145.out | refine below_set ?_ GE151.out) | exact HB.out))) : w.heap.size ≤ gb155)); have n7_ := Aside0.mk ((by rw [hg]; exact Nat.ne_of_lt (blk_lt (Bh BK145)) : gb145 ≠ gb155)); have n8_ := Aside0.mk ((by rw [hg]; exact Nat.ne_of_gt (blk_lt (Bh BK145)) : gb155 ≠ gb145)); have n9_ := Aside0.mk ((by rw [hg]; exact Nat.ne_of_lt (blk_lt (Bh BK151)) : gb151 ≠ gb155)); have n10_ := Aside0.mk ((by rw [hg]; exact Nat.ne_of_gt (blk_lt (Bh BK151)) : gb155 ≠ gb151)); have n11_ := Aside0.mk ((by rw [hg]; exact Nat.ne_of_lt (IsS25.lt (show IsS25 w _ gb136 l0 x137001_2 x137002_2 from by repeat (first | (with_reducible first | exact HI136.out | apply IsS25.alloc | apply IsS25.drewN | apply IsS25.drew | apply IsS25.set_1 | apply IsS25.set_2 | refine IsS25.far ?_ NB136_145.out _ | refine IsS25.far ?_ NB136_151.out _) | exact HI136.out))) : gb136 ≠ gb155)); have n12_ := Aside0.mk ((by rw [hg]; exact Nat.ne_of_gt (IsS25.lt (show IsS25 w _ gb136 l0 x137001_2 x137002_2 from by repeat (first | (with_reducible first | exact HI136.out | apply IsS25.alloc | apply IsS25.drewN | apply IsS25.drew | apply IsS25.set_1 | apply IsS25.set_2 | refine IsS25.far ?_ NB136_145.out _ | refine IsS25.far ?_ NB136_151.out _) | exact HI136.out))) : gb155 ≠ gb136)); clear BK145; clear BK151; clear HI136; clear HB; have BK145 := n0_; have BK151 := n1_; have HI136 := n2_; have HB := n3_; have BK155 := n4_; have GW155 := n5_; have GE155 := n6_; have NB145_155 := n7_; have NB155_145 := n8_; have NB151_155 := n9_; have NB155_151 := n10_; have NB136_155 := n11_; have NB155_136 := n12_; clear n0_ n1_ n2_ n3_ n4_ n5_ n6_ n7_ n8_ n9_ n10_ n11_ n12_; clear hb hbox hg; have hnb43 := NB155_145.out; have hnc43 := NB145_155.out; have hnb44 := NB155_151.out; have hnc44 := NB151_155.out; have hnb45 := NB155_136.out; have hnc45 := NB136_155.out; obtain ⟨⟨hcz46_0, hcz46_1, hcz46_2, hcz46_3⟩, hfz46_0, hfz46_1, hfz46_2, hfz46_3⟩ := cells4 BK155.out) | ((with_reducible refine gate_store (t := 36) (p := 13) rfl ?_); refine store_event (t := 36) (p := 13) (v := ?vo_w47) (w1 := ((((w42.setCell ⟨gb155, 0, none⟩ (.int .i64 x146000_2)).setCell ⟨gb155, 1, none⟩ (.int .i64 x146001_2)).setCell ⟨gb155, 2, none⟩ (.int .i64 x146002_2)).setCell ⟨gb155, 3, none⟩ (.int .i64 x146003_2))) ?hg ?ho ?hn ?hr ?_; (case ho => rfl); (case hg => rfl); (case hn => rfl); (case hr => first | (go_simp; done) | (go_simp; rfl)); intro w47 hw; have n0_ : Aside0 (w47.heap[gb145]? = some (.cells #[.int .i64 x146000_2, .int .i64 x146001_2, .int .i64 x146002_2, .int .i64 x146003_2] 36 (0, 0))) := ⟨(by rw [hw]; exact (by (with_reducible repeat (first | refine blk_drewN ?_ _ | refine blk_drew ?_ | refine blk_alloc ?_ _)); refine blk_far ?_ NB145_155.out _; (with_reducible repeat (first | refine blk_drewN ?_ _ | refine blk_drew ?_ | refine blk_alloc ?_ _)); refine blk_far ?_ NB145_155.out _; (with_reducible repeat (first | refine blk_drewN ?_ _ | refine blk_drew ?_ | refine blk_alloc ?_ _)); refine blk_far ?_ NB145_155.out _; (with_reducible repeat (first | refine blk_drewN ?_ _ | refine blk_drew ?_ | refine blk_alloc ?_ _)); refine blk_far ?_ NB145_155.out _; (with_reducible repeat (first | refine blk_drewN ?_ _ | refine blk_drew ?_ | refine blk_alloc ?_ _)); exact BK145.out))⟩; have n1_ : Aside0 (w47.heap[gb151]? = some (.cells #[.int .i64 t146, .int .i64 t147, .int .i64 t148, .int .i64 t149] 36 (0, 0))) := ⟨(by rw [hw]; exact (by (with_reducible repeat (first | refine blk_drewN ?_ _ | refine blk_drew ?_ | refine blk_alloc ?_ _)); refine blk_far ?_ NB151_155.out _; (with_reducible repeat (first | refine blk_drewN ?_ _ | refine blk_drew ?_ | refine blk_alloc ?_ _)); refine blk_far ?_ NB151_155.out _; (with_reducible repeat (first | refine blk_drewN ?_ _ | refine blk_drew ?_ | refine blk_alloc ?_ _)); refine blk_far ?_ NB151_155.out _; (with_reducible repeat (first | refine blk_drewN ?_ _ | refine blk_drew ?_ | refine blk_alloc ?_ _)); refine blk_far ?_ NB151_155.out _; (with_reducible repeat (first | refine blk_drewN ?_ _ | refine blk_drew ?_ | refine blk_alloc ?_ _)); exact BK151.out))⟩; have n2_ : Aside0 (w47.heap[gb155]? = some (.cells #[.int .i64 x146000_2, .int .i64 x146001_2, .int .i64 x146002_2, .int .i64 x146003_2] 36 (0, 0))) := ⟨(by rw [hw]; exact (by (with_reducible repeat (first | refine blk_drewN ?_ _ | refine blk_drew ?_ | refine blk_alloc ?_ _)); refine blk_put (cs := #[.int .i64 x146000_2, .int .i64 x146001_2, .int .i64 x146002_2, .int .i64 0]) ?_ 3 _ rfl; (with_reducible repeat (first | refine blk_drewN ?_ _ | refine blk_drew ?_ | refine blk_alloc ?_ _)); refine blk_put (cs := #[.int .i64 x146000_2, .int .i64 x146001_2, .int .i64 0, .int .i64 0]) ?_ 2 _ rfl; (with_reducible repeat (first | refine blk_drewN ?_ _ | refine blk_drew ?_ | refine blk_alloc ?_ _)); refine blk_put (cs := #[.int .i64 x146000_2, .int .i64 0, .int .i64 0, .int .i64 0]) ?_ 1 _ rfl; (with_reducible repeat (first | refine blk_drewN ?_ _ | refine blk_drew ?_ | refine blk_alloc ?_ _)); refine blk_put (cs := #[.int .i64 0, .int .i64 0, .int .i64 0, .int .i64 0]) ?_ 0 _ rfl; (with_reducible repeat (first | refine blk_drewN ?_ _ | refine blk_drew ?_ | refine blk_alloc ?_ _)); exact BK155.out))⟩; have n3_ : Aside0 (IsS25 w w47 gb136 l0 x137001_2 x137002_2) := ⟨(by rw [hw]; exact (by repeat (first | (with_reducible first | exact HI136.out | apply IsS25.alloc | apply IsS25.drewN | apply IsS25.drew | apply IsS25.set_1 | apply IsS25.set_2 | refine IsS25.far ?_ NB136_145.out _ | refine IsS25.far ?_ NB136_151.out _ | refine IsS25.far ?_ NB136_155.out _) | exact HI136.out)))⟩; have n4_ : Aside0 (Below w.heap.size w w47) := ⟨(by rw [hw]; exact (by repeat (first | (with_reducible first | exact HB.out | apply below_alloc | apply pw_below_drewN | apply below_drew1 | refine below_set ?_ (IsS25.ge HI136.out) | refine below_set ?_ GE145.out | refine below_set ?_ GE151.out | refine below_set ?_ GE155.out) | exact HB.out)))⟩; clear hw; clear BK145; clear BK151; clear BK155; clear HI136; clear HB; have BK145 := n0_; have BK151 := n1_; have BK155 := n2_; have HI136 := n3_; have HB := n4_; clear n0_ n1_ n2_ n3_ n4_) | ((with_reducible refine gate_callee (f := 16) rfl ?_); refine goesL_ (some 51) rfl rfl Try.func16 (by kernel_rfl) rfl #[.pointer (some ⟨gb136, 0, none⟩), .int .i64 100000] rfl wT ?_; (with_reducible refine (laws_lwNext.calls gb136 l0 x137001_2 x137002_2 100000 t156 t157 t158 w _ ?side1 ?side2 A37.out).mono ?_); (case side1 => repeat (first | (with_reducible first | exact HI136.out | apply IsS25.alloc | apply IsS25.drewN | apply IsS25.drew | apply IsS25.set_1 | apply IsS25.set_2 | refine IsS25.far ?_ NB136_145.out _ | refine IsS25.far ?_ NB136_151.out _ | refine IsS25.far ?_ NB136_155.out _) | exact HI136.out)); (case side2 => repeat (first | (with_reducible first | exact HB.out | apply below_alloc | apply pw_below_drewN | apply below_drew1 | refine below_set ?_ (IsS25.ge HI136.out) | refine below_set ?_ GE145.out | refine below_set ?_ GE151.out | refine below_set ?_ GE155.out) | exact HB.out)); rintro e w48 ⟨rfl, hi, hb, hk⟩; refine ⟨_, rfl, ?_⟩; have n0_ := Aside0.mk (KeepBut.blk hk (g' := gb145) (o := .cells #[.int .i64 x146000_2, .int .i64 x146001_2, .int .i64 x146002_2, .int .i64 x146003_2] 36 (0, 0)) (Bh BK145) NB145_136.out (by simp)); have n1_ := Aside0.mk (KeepBut.blk hk (g' := gb151) (o := .cells #[.int .i64 t146, .int .i64 t147, .int .i64 t148, .int .i64 t149] 36 (0, 0)) (Bh BK151) NB151_136.out (by simp)); have n2_ := Aside0.mk (KeepBut.blk hk (g' := gb155) (o := .cells #[.int .i64 x146000_2, .int .i64 x146001_2, .int .i64 x146002_2, .int .i64 x146003_2] 36 (0, 0)) (Bh BK155) NB155_136.out (by simp)); have n3_ := Aside0.mk (hb); have n4_ := Aside0.mk (hi); clear BK145; clear BK151; clear BK155; clear HB; clear HI136; have BK145 := n0_; have BK151 := n1_; have BK155 := n2_; have HB := n3_; have HI136 := n4_; clear n0_ n1_ n2_ n3_ n4_; (try clear hb); (try clear hb2); (try clear hk); (try clear hi)))
 (try simp only [Act.put, List.setIfInBounds_toArray, List.set_cons_zero, List.set_cons_succ])
 go_cut [15] (fun v15 wc => ∃ (kq : Nat) (x15_37 : Int), v15 = .int .i64 x15_37 ∧ Aside0 (laws_FnWindow.j2 kq (wrap64 (1 + t137)) t141 x10_2 x11_2 x12_2 t156 x15_37 l0 t157 t158 x146000_2 x146001_2 x146002_2 x146003_2 x146000_2 x146001_2 x146002_2 x146003_2 = some r) ∧ Aside0 (kq ≤ k2) ∧ Aside0 (wc.heap[gb145]? = some (.cells #[.int .i64 x146000_2, .int .i64 x146001_2, .int .i64 x146002_2, .int .i64 x146003_2] 36 (0, 0))) ∧ Aside0 (wc.heap[gb151]? = some (.cells #[.int .i64 t146, .int .i64 t147, .int .i64 t148, .int .i64 t149] 36 (0, 0))) ∧ Aside0 (wc.heap[gb155]? = some (.cells #[.int .i64 x146000_2, .int .i64 x146001_2, .int .i64 x146002_2, .int .i64 x146003_2] 36 (0, 0))) ∧ Aside0 (IsS25 w wc gb136 l0 t157 t158) ∧ Aside0 (Below w.heap.size w wc))
 case first => as_aux_lemma => (
 have H := HC38.out
 clear HC38
 by_cases c49 : (wrap64 (Int.tdiv t156 2)) < (wrap64 (2 * (wrap64 (1 + t137))))
 {
 rw [if_pos c49] at H
 have c49b0 : decide ((wrap64 (Int.tdiv t156 2)) < (wrap64 (2 * (wrap64 (1 + t137))))) = true := decide_eq_true c49
 clear c49
 (first | rw [c49b0] | (simp only [i64_w, i32_w]; rw [c49b0]) | skip)
 have H' := Aside0.mk H
 clear H
 go_wp2
 go_meet
 case rel => exact ⟨_, (wrap64 (2 * (wrap64 (1 + t137)))), (by first | rfl | (simp; done) | (simp [*]; done)), H', ⟨by have := HJ6.out; have := HK2.out; first | omega | exact Nat.le_refl _⟩, ⟨Bh BK145⟩, ⟨Bh BK151⟩, ⟨Bh BK155⟩, ⟨by repeat (first | (with_reducible first | exact HI136.out | apply IsS25.alloc | apply IsS25.drewN | apply IsS25.drew | apply IsS25.set_1 | apply IsS25.set_2 | refine IsS25.far ?_ NB136_145.out _ | refine IsS25.far ?_ NB136_151.out _ | refine IsS25.far ?_ NB136_155.out _) | exact HI136.out)⟩, ⟨by repeat (first | (with_reducible first | exact HB.out | apply below_alloc | apply pw_below_drewN | apply below_drew1 | refine below_set ?_ (IsS25.ge HI136.out) | refine below_set ?_ GE145.out | refine below_set ?_ GE151.out | refine below_set ?_ GE155.out) | exact HB.out)⟩⟩
 }
 {
 rw [if_neg c49] at H
 have c49b0 : decide ((wrap64 (Int.tdiv t156 2)) < (wrap64 (2 * (wrap64 (1 + t137))))) = false := decide_eq_false c49
 clear c49
 (first | rw [c49b0] | (simp only [i64_w, i32_w]; rw [c49b0]) | skip)
 have H' := Aside0.mk H
 clear H
 go_wp2
 go_meet
 case rel => exact ⟨_, (wrap64 (Int.tdiv t156 2)), (by first | rfl | (simp; done) | (simp [*]; done)), H', ⟨by have := HJ6.out; have := HK2.out; first | omega | exact Nat.le_refl _⟩, ⟨Bh BK145⟩, ⟨Bh BK151⟩, ⟨Bh BK155⟩, ⟨by repeat (first | (with_reducible first | exact HI136.out | apply IsS25.alloc | apply IsS25.drewN | apply IsS25.drew | apply IsS25.set_1 | apply IsS25.set_2 | refine IsS25.far ?_ NB136_145.out _ | refine IsS25.far ?_ NB136_151.out _ | refine IsS25.far ?_ NB136_155.out _) | exact HI136.out)⟩, ⟨by repeat (first | (with_reducible first | exact HB.out | apply below_alloc | apply pw_below_drewN | apply below_drew1 | refine below_set ?_ (IsS25.ge HI136.out) | refine below_set ?_ GE145.out | refine below_set ?_ GE151.out | refine below_set ?_ GE155.out) | exact HB.out)⟩⟩
 }
 )
 case rest => as_aux_lemma => (
 clear HC38
 try clear c1
 try clear c2
 try clear c2b0
 try clear c2b1
 try clear p2
 try clear c3
 try clear c4
 try clear p6
 try clear c14
 try clear c15
 try clear c16
 try clear c20
 try clear c21
 try clear c22
 try clear c24
 try clear c24b0
 try clear c24b1
 try clear c25
 try clear c26
 try clear c28
 try clear c30
 try clear c32
 try clear c33
 try clear c36
 try clear c36b0
 try clear c39
 try clear c40
 try clear c43
 try clear c44
 try clear c45
 try clear c49
 try clear c49b0
 try clear hcz10_0 hcz10_1 hcz10_2 hfz10_0 hfz10_1 hfz10_2
 try clear hcz16_0 hcz16_1 hcz16_2 hcz16_3 hfz16_0 hfz16_1 hfz16_2 hfz16_3
 try clear hcz22_0 hcz22_1 hcz22_2 hcz22_3 hfz22_0 hfz22_1 hfz22_2 hfz22_3
 try clear hcz27_0 hcz27_1 hcz27_2 hcz27_3 hfz27_0 hfz27_1 hfz27_2 hfz27_3
 try clear hcz29_0 hcz29_1 hcz29_2 hcz29_3 hfz29_0 hfz29_1 hfz29_2 hfz29_3
 try clear hcz34_0 hcz34_1 hcz34_2 hcz34_3 hfz34_0 hfz34_1 hfz34_2 hfz34_3
 try clear hcz41_0 hcz41_1 hcz41_2 hcz41_3 hfz41_0 hfz41_1 hfz41_2 hfz41_3
 try clear hcz46_0 hcz46_1 hcz46_2 hcz46_3 hfz46_0 hfz46_1 hfz46_2 hfz46_3
 try clear p2
 try clear p6
 obtain ⟨kq, x15_37, rfl, HA, HJ37, BK145, BK151, BK155, HI136, HB⟩ := hcut
 cases kq with
 | zero => exact absurd HA.out (by simp [laws_FnWindow.j2])
 | succ kj37 => {
 have H := HA.out
 clear HA
 simp only [laws_FnWindow.j2] at H
 replace H := Option.bind_eq_some_iff.mp H
 obtain ⟨⟨t159, t160, t161⟩, A500, H⟩ := H
 replace H : ((laws_lwNext.f l0 t160 t161 8).bind fun bt162 => (if bt162.1 = 0 then ((impl_CongLoss.f kj37 x146000_2 x146001_2 x146002_2 x146003_2 t156).bind fun bt165 => (if bt165.2.1 = x15_37 then (if bt165.2.2.1 = x15_37 then (laws_FnWindow.j4 kj37 (wrap64 (1 + t137)) bt165.2.2.2.2 t141 0 x15_37 x12_2 l0 bt162.2.1 bt162.2.2 bt165.1 bt165.2.1 bt165.2.2.1 bt165.2.2.2.1) else (some false)) else (some false))) else (if bt162.1 = 1 then ((impl_CongTimeout.f kj37 x146000_2 x146001_2 x146002_2 x146003_2 t156).bind fun bt170 => (if bt170.2.1 = (wrap64 (1 + t137)) then (if bt170.2.2.1 = x15_37 then (laws_FnWindow.j4 kj37 (wrap64 (1 + t137)) bt170.2.2.2.2 t141 0 (wrap64 (1 + t137)) x12_2 l0 bt162.2.1 bt162.2.2 bt170.1 bt170.2.1 bt170.2.2.1 bt170.2.2.2.1) else (some false)) else (some false))) else (if bt162.1 = 2 then ((impl_CongIdle.f x146000_2 x146001_2 x146002_2 x146003_2).bind fun bt175 => (if bt175.2.1 > x146001_2 then (some false) else (if bt175.2.1 > t141 then (some false) else (laws_FnWindow.j4 kj37 (wrap64 (1 + t137)) bt175.2.2.2.2 t141 0 bt175.2.1 x12_2 l0 bt162.2.1 bt162.2.2 bt175.1 bt175.2.1 bt175.2.2.1 bt175.2.2.2.1)))) else ((impl_CongAck.f kj37 x146000_2 x146001_2 x146002_2 x146003_2 (wrap64 (1 + t159))).bind fun bt180 => (if bt180.2.1 < x146001_2 then (laws_FnWindow.j3 kj37 (wrap64 (1 + t137)) bt180.2.2.2.2 t141 (wrap64 (x10_2 + (wrap64 (1 + t159)))) x11_2 x12_2 (wrap64 (1 + t159)) true l0 bt162.2.1 bt162.2.2 bt180.1 bt180.2.1 bt180.2.2.1 bt180.2.2.2.1 x146000_2 x146001_2 x146002_2 x146003_2) else (laws_FnWindow.j3 kj37 (wrap64 (1 + t137)) bt180.2.2.2.2 t141 (wrap64 (x10_2 + (wrap64 (1 + t159)))) x11_2 x12_2 (wrap64 (1 + t159)) (decide (bt180.2.1 > (wrap64 (x146001_2 + (wrap64 (1 + t137)))))) l0 bt162.2.1 bt162.2.2 bt180.1 bt180.2.1 bt180.2.2.1 bt180.2.2.2.1 x146000_2 x146001_2 x146002_2 x146003_2))))))) = some r := H
 have A50 := Aside0.mk A500
 clear A500
 replace H := Option.bind_eq_some_iff.mp H
 obtain ⟨⟨t162, t163, t164⟩, A510, H⟩ := H
 replace H : (if t162 = 0 then ((impl_CongLoss.f kj37 x146000_2 x146001_2 x146002_2 x146003_2 t156).bind fun bt165 => (if bt165.2.1 = x15_37 then (if bt165.2.2.1 = x15_37 then (laws_FnWindow.j4 kj37 (wrap64 (1 + t137)) bt165.2.2.2.2 t141 0 x15_37 x12_2 l0 t163 t164 bt165.1 bt165.2.1 bt165.2.2.1 bt165.2.2.2.1) else (some false)) else (some false))) else (if t162 = 1 then ((impl_CongTimeout.f kj37 x146000_2 x146001_2 x146002_2 x146003_2 t156).bind fun bt170 => (if bt170.2.1 = (wrap64 (1 + t137)) then (if bt170.2.2.1 = x15_37 then (laws_FnWindow.j4 kj37 (wrap64 (1 + t137)) bt170.2.2.2.2 t141 0 (wrap64 (1 + t137)) x12_2 l0 t163 t164 bt170.1 bt170.2.1 bt170.2.2.1 bt170.2.2.2.1) else (some false)) else (some false))) else (if t162 = 2 then ((impl_CongIdle.f x146000_2 x146001_2 x146002_2 x146003_2).bind fun bt175 => (if bt175.2.1 > x146001_2 then (some false) else (if bt175.2.1 > t141 then (some false) else (laws_FnWindow.j4 kj37 (wrap64 (1 + t137)) bt175.2.2.2.2 t141 0 bt175.2.1 x12_2 l0 t163 t164 bt175.1 bt175.2.1 bt175.2.2.1 bt175.2.2.2.1)))) else ((impl_CongAck.f kj37 x146000_2 x146001_2 x146002_2 x146003_2 (wrap64 (1 + t159))).bind fun bt180 => (if bt180.2.1 < x146001_2 then (laws_FnWindow.j3 kj37 (wrap64 (1 + t137)) bt180.2.2.2.2 t141 (wrap64 (x10_2 + (wrap64 (1 + t159)))) x11_2 x12_2 (wrap64 (1 + t159)) true l0 t163 t164 bt180.1 bt180.2.1 bt180.2.2.1 bt180.2.2.2.1 x146000_2 x146001_2 x146002_2 x146003_2) else (laws_FnWindow.j3 kj37 (wrap64 (1 + t137)) bt180.2.2.2.2 t141 (wrap64 (x10_2 + (wrap64 (1 + t159)))) x11_2 x12_2 (wrap64 (1 + t159)) (decide (bt180.2.1 > (wrap64 (x146001_2 + (wrap64 (1 + t137)))))) l0 t163 t164 bt180.1 bt180.2.1 bt180.2.2.1 bt180.2.2.2.1 x146000_2 x146001_2 x146002_2 x146003_2)))))) = some r := H
 have A51 := Aside0.mk A510
 clear A510
 have HC52 := Aside0.mk H
 clear H
 go_upto_block 2 with (first | ((with_reducible refine gate_callee (f := 16) rfl ?_); refine goesL_ (some 62) rfl rfl Try.func16 (by kernel_rfl) rfl #[.pointer (some ⟨gb136, 0, none⟩), .int .i64 (wrap64 (2 * (wrap64 (1 + t137))))] rfl wT ?_; (with_reducible refine (laws_lwNext.calls gb136 l0 t157 t158 (wrap64 (2 * (wrap64 (1 + t137)))) t159 t160 t161 w _ ?side1 ?side2 A50.out).mono ?_); (case side1 => repeat (first | (with_reducible first | exact HI136.out | apply IsS25.alloc | apply IsS25.drewN | apply IsS25.drew | apply IsS25.set_1 | apply IsS25.set_2 | refine IsS25.far ?_ NB136_145.out _ | refine IsS25.far ?_ NB136_151.out _ | refine IsS25.far ?_ NB136_155.out _) | exact HI136.out)); (case side2 => repeat (first | (with_reducible first | exact HB.out | apply below_alloc | apply pw_below_drewN | apply below_drew1 | refine below_set ?_ (IsS25.ge HI136.out) | refine below_set ?_ GE145.out | refine below_set ?_ GE151.out | refine below_set ?_ GE155.out) | exact HB.out)); rintro e w53 ⟨rfl, hi, hb, hk⟩; refine ⟨_, rfl, ?_⟩; have n0_ := Aside0.mk (KeepBut.blk hk (g' := gb145) (o := .cells #[.int .i64 x146000_2, .int .i64 x146001_2, .int .i64 x146002_2, .int .i64 x146003_2] 36 (0, 0)) (Bh BK145) NB145_136.out (by simp)); have n1_ := Aside0.mk (KeepBut.blk hk (g' := gb151) (o := .cells #[.int .i64 t146, .int .i64 t147, .int .i64 t148, .int .i64 t149] 36 (0, 0)) (Bh BK151) NB151_136.out (by simp)); have n2_ := Aside0.mk (KeepBut.blk hk (g' := gb155) (o := .cells #[.int .i64 x146000_2, .int .i64 x146001_2, .int .i64 x146002_2, .int .i64 x146003_2] 36 (0, 0)) (Bh BK155) NB155_136.out (by simp)); have n3_ := Aside0.mk (hb); have n4_ := Aside0.mk (hi); clear BK145; clear BK151; clear BK155; clear HB; clear HI136; have BK145 := n0_; have BK151 := n1_; have BK155 := n2_; have HB := n3_; have HI136 := n4_; clear n0_ n1_ n2_ n3_ n4_; (try clear hb); (try clear hb2); (try clear hk); (try clear hi)) | ((with_reducible refine gate_callee (f := 16) rfl ?_); refine goesL_ (some 64) rfl rfl Try.func16 (by kernel_rfl) rfl #[.pointer (some ⟨gb136, 0, none⟩), .int .i64 8] rfl wT ?_; (with_reducible refine (laws_lwNext.calls gb136 l0 t160 t161 8 t162 t163 t164 w _ ?side1 ?side2 A51.out).mono ?_); (case side1 => repeat (first | (with_reducible first | exact HI136.out | apply IsS25.alloc | apply IsS25.drewN | apply IsS25.drew | apply IsS25.set_1 | apply IsS25.set_2 | refine IsS25.far ?_ NB136_145.out _ | refine IsS25.far ?_ NB136_151.out _ | refine IsS25.far ?_ NB136_155.out _) | exact HI136.out)); (case side2 => repeat (first | (with_reducible first | exact HB.out | apply below_alloc | apply pw_below_drewN | apply below_drew1 | refine below_set ?_ (IsS25.ge HI136.out) | refine below_set ?_ GE145.out | refine below_set ?_ GE151.out | refine below_set ?_ GE155.out) | exact HB.out)); rintro e w54 ⟨rfl, hi, hb, hk⟩; refine ⟨_, rfl, ?_⟩; have n0_ := Aside0.mk (KeepBut.blk hk (g' := gb145) (o := .cells #[.int .i64 x146000_2, .int .i64 x146001_2, .int .i64 x146002_2, .int .i64 x146003_2] 36 (0, 0)) (Bh BK145) NB145_136.out (by simp)); have n1_ := Aside0.mk (KeepBut.blk hk (g' := gb151) (o := .cells #[.int .i64 t146, .int .i64 t147, .int .i64 t148, .int .i64 t149] 36 (0, 0)) (Bh BK151) NB151_136.out (by simp)); have n2_ := Aside0.mk (KeepBut.blk hk (g' := gb155) (o := .cells #[.int .i64 x146000_2, .int .i64 x146001_2, .int .i64 x146002_2, .int .i64 x146003_2] 36 (0, 0)) (Bh BK155) NB155_136.out (by simp)); have n3_ := Aside0.mk (hb); have n4_ := Aside0.mk (hi); clear BK145; clear BK151; clear BK155; clear HB; clear HI136; have BK145 := n0_; have BK151 := n1_; have BK155 := n2_; have HB := n3_; have HI136 := n4_; clear n0_ n1_ n2_ n3_ n4_; (try clear hb); (try clear hb2); (try clear hk); (try clear hi)))
 (try simp only [Act.put, List.setIfInBounds_toArray, List.set_cons_zero, List.set_cons_succ])
 go_cut [6, 10, 11] (fun v6 v10 v11 wc => ∃ (kq : Nat) (x6_51 : Int) (x10_51 : Int) (x11_51 : Int) (x146000_51 : Int) (x146001_51 : Int) (x146002_51 : Int) (x146003_51 : Int), v6 = .int .i64 x6_51 ∧ v10 = .int .i64 x10_51 ∧ v11 = .int .i64 x11_51 ∧ Aside0 (laws_FnWindow.j4 kq (wrap64 (1 + t137)) x6_51 t141 x10_51 x11_51 x12_2 l0 t163 t164 x146000_51 x146001_51 x146002_51 x146003_51 = some r) ∧ Aside0 (kq ≤ kj37) ∧ Aside0 (wc.heap[gb145]? = some (.cells #[.int .i64 x146000_51, .int .i64 x146001_51, .int .i64 x146002_51, .int .i64 x146003_51] 36 (0, 0))) ∧ Aside0 (wc.heap[gb151]? = some (.cells #[.int .i64 t146, .int .i64 t147, .int .i64 t148, .int .i64 t149] 36 (0, 0))) ∧ Aside0 (wc.heap[gb155]? = some (.cells #[.int .i64 x146000_2, .int .i64 x146001_2, .int .i64 x146002_2, .int .i64 x146003_2] 36 (0, 0))) ∧ Aside0 (IsS25 w wc gb136 l0 t163 t164) ∧ Aside0 (Below w.heap.size w wc))
 case first => as_aux_lemma => (
 have H := HC52.out
 clear HC52
 by_cases c55 : t162 = 0
 {
 rw [if_pos c55] at H
 have c55b0 : (t162 == 0) = true := beq_iff_eq.mpr c55
 have c55b1 : (t162 != 0) = false := bne_eq_false_iff_eq.mpr c55
 clear c55
 (first | rw [c55b0] | (simp only [i64_w, i32_w]; rw [c55b0]) | skip)
 replace H := Option.bind_eq_some_iff.mp H
 obtain ⟨⟨t165, t166, t167, t168, t169⟩, A560, H⟩ := H
 replace H : (if t166 = x15_37 then (if t167 = x15_37 then (laws_FnWindow.j4 kj37 (wrap64 (1 + t137)) t169 t141 0 x15_37 x12_2 l0 t163 t164 t165 t166 t167 t168) else (some false)) else (some false)) = some r := H
 have A56 := Aside0.mk A560
 clear A560
 by_cases c57 : t166 = x15_37
 {
 rw [if_pos c57] at H
 have c57b0 : (t166 == x15_37) = true := beq_iff_eq.mpr c57
 have c57b1 : (t166 != x15_37) = false := bne_eq_false_iff_eq.mpr c57
 clear c57
 by_cases c58 : t167 = x15_37
 {
 rw [if_pos c58] at H
 have c58b0 : (t167 == x15_37) = true := beq_iff_eq.mpr c58
 have c58b1 : (t167 != x15_37) = false := bne_eq_false_iff_eq.mpr c58
 clear c58
 have H' := Aside0.mk H
 clear H
 have hnb59 := NB145_151.out
 have hnc59 := NB151_145.out
 have hnb60 := NB145_155.out
 have hnc60 := NB155_145.out
 have hnb61 := NB145_136.out
 have hnc61 := NB136_145.out
 obtain ⟨⟨hcz62_0, hcz62_1, hcz62_2, hcz62_3⟩, hfz62_0, hfz62_1, hfz62_2, hfz62_3⟩ := cells4 BK145.out
 go_wp2_with (first | ((with_reducible refine gate_callee (f := 23) rfl ?_); refine goesL_ (some 107) rfl rfl Try.func23 (by kernel_rfl) rfl #[.agg #[.int .i64 x146000_2, .int .i64 x146001_2, .int .i64 x146002_2, .int .i64 x146003_2], .int .i64 t156] rfl wT ?_; (with_reducible refine (impl_CongLoss.calls kj37 x146000_2 x146001_2 x146002_2 x146003_2 t156 t165 t166 t167 t168 t169 _ A56.out).mono ?_); rintro e w63 ⟨rfl, hb⟩; refine ⟨_, rfl, ?_⟩; have n0_ := Aside0.mk (blk_below (Bh BK145) hb); have n1_ := Aside0.mk (blk_below (Bh BK151) hb); have n2_ := Aside0.mk (blk_below (Bh BK155) hb); have n3_ := Aside0.mk (IsS25.below (by repeat (first | (with_reducible first | exact HI136.out | apply IsS25.alloc | apply IsS25.drewN | apply IsS25.drew | apply IsS25.set_1 | apply IsS25.set_2 | refine IsS25.far ?_ NB136_145.out _ | refine IsS25.far ?_ NB136_151.out _ | refine IsS25.far ?_ NB136_155.out _) | exact HI136.out)) hb); have n4_ := Aside0.mk (below_step (by repeat (first | (with_reducible first | exact HB.out | apply below_alloc | apply pw_below_drewN | apply below_drew1 | refine below_set ?_ (IsS25.ge HI136.out) | refine below_set ?_ GE145.out | refine below_set ?_ GE151.out | refine below_set ?_ GE155.out) | exact HB.out)) hb); clear BK145; clear BK151; clear BK155; clear HI136; clear HB; have BK145 := n0_; have BK151 := n1_; have BK155 := n2_; have HI136 := n3_; have HB := n4_; clear n0_ n1_ n2_ n3_ n4_; (try clear hb); (try clear hb2); (try clear hk); (try clear hi); obtain ⟨⟨hcz64_0, hcz64_1, hcz64_2, hcz64_3⟩, hfz64_0, hfz64_1, hfz64_2, hfz64_3⟩ := cells4 BK145.out) | ((with_reducible refine gate_store (t := 36) (p := 5) rfl ?_); refine store_event (t := 36) (p := 5) (v := ?vo_w65) (w1 := ((((w63.setCell ⟨gb145, 0, none⟩ (.int .i64 t165)).setCell ⟨gb145, 1, none⟩ (.int .i64 t166)).setCell ⟨gb145, 2, none⟩ (.int .i64 t167)).setCell ⟨gb145, 3, none⟩ (.int .i64 t168))) ?hg ?ho ?hn ?hr ?_; (case ho => rfl); (case hg => rfl); (case hn => rfl); (case hr => first | (go_simp; done) | (go_simp; rfl)); intro w65 hw; have n0_ : Aside0 (w65.heap[gb145]? = some (.cells #[.int .i64 t165, .int .i64 t166, .int .i64 t167, .int .i64 t168] 36 (0, 0))) := ⟨(by rw [hw]; exact (by (with_reducible repeat (first | refine blk_drewN ?_ _ | refine blk_drew ?_ | refine blk_alloc ?_ _)); refine blk_put (cs := #[.int .i64 t165, .int .i64 t166, .int .i64 t167, .int .i64 x146003_2]) ?_ 3 _ rfl; (with_reducible repeat (first | refine blk_drewN ?_ _ | refine blk_drew ?_ | refine blk_alloc ?_ _)); refine blk_put (cs := #[.int .i64 t165, .int .i64 t166, .int .i64 x146002_2, .int .i64 x146003_2]) ?_ 2 _ rfl; (with_reducible repeat (first | refine blk_drewN ?_ _ | refine blk_drew ?_ | refine blk_alloc ?_ _)); refine blk_put (cs := #[.int .i64 t165, .int .i64 x146001_2, .int .i64 x146002_2, .int .i64 x146003_2]) ?_ 1 _ rfl; (with_reducible repeat (first | refine blk_drewN ?_ _ | refine blk_drew ?_ | refine blk_alloc ?_ _)); refine blk_put (cs := #[.int .i64 x146000_2, .int .i64 x146001_2, .int .i64 x146002_2, .int .i64 x146003_2]) ?_ 0 _ rfl; (with_reducible repeat (first | refine blk_drewN ?_ _ | refine blk_drew ?_ | refine blk_alloc ?_ _)); exact BK145.out))⟩; have n1_ : Aside0 (w65.heap[gb151]? = some (.cells #[.int .i64 t146, .int .i64 t147, .int .i64 t148, .int .i64 t149] 36 (0, 0))) := ⟨(by rw [hw]; exact (by (with_reducible repeat (first | refine blk_drewN ?_ _ | refine blk_drew ?_ | refine blk_alloc ?_ _)); refine blk_far ?_ NB151_145.out _; (with_reducible repeat (first | refine blk_drewN ?_ _ | refine blk_drew ?_ | refine blk_alloc ?_ _)); refine blk_far ?_ NB151_145.out _; (with_reducible repeat (first | refine blk_drewN ?_ _ | refine blk_drew ?_ | refine blk_alloc ?_ _)); refine blk_far ?_ NB151_145.out _; (with_reducible repeat (first | refine blk_drewN ?_ _ | refine blk_drew ?_ | refine blk_alloc ?_ _)); refine blk_far ?_ NB151_145.out _; (with_reducible repeat (first | refine blk_drewN ?_ _ | refine blk_drew ?_ | refine blk_alloc ?_ _)); exact BK151.out))⟩; have n2_ : Aside0 (w65.heap[gb155]? = some (.cells #[.int .i64 x146000_2, .int .i64 x146001_2, .int .i64 x146002_2, .int .i64 x146003_2] 36 (0, 0))) := ⟨(by rw [hw]; exact (by (with_reducible repeat (first | refine blk_drewN ?_ _ | refine blk_drew ?_ | refine blk_alloc ?_ _)); refine blk_far ?_ NB155_145.out _; (with_reducible repeat (first | refine blk_drewN ?_ _ | refine blk_drew ?_ | refine blk_alloc ?_ _)); refine blk_far ?_ NB155_145.out _; (with_reducible repeat (first | refine blk_drewN ?_ _ | refine blk_drew ?_ | refine blk_alloc ?_ _)); refine blk_far ?_ NB155_145.out _; (with_reducible repeat (first | refine blk_drewN ?_ _ | refine blk_drew ?_ | refine blk_alloc ?_ _)); refine blk_far ?_ NB155_145.out _; (with_reducible repeat (first | refine blk_drewN ?_ _ | refine blk_drew ?_ | refine blk_alloc ?_ _)); exact BK155.out))⟩; have n3_ : Aside0 (IsS25 w w65 gb136 l0 t163 t164) := ⟨(by rw [hw]; exact (by repeat (first | (with_reducible first | exact HI136.out | apply IsS25.alloc | apply IsS25.drewN | apply IsS25.drew | apply IsS25.set_1 | apply IsS25.set_2 | refine IsS25.far ?_ NB136_145.out _ | refine IsS25.far ?_ NB136_151.out _ | refine IsS25.far ?_ NB136_155.out _) | exact HI136.out)))⟩; have n4_ : Aside0 (Below w.heap.size w w65) := ⟨(by rw [hw]; exact (by repeat (first | (with_reducible first | exact HB.out | apply below_alloc | apply pw_below_drewN | apply below_drew1 | refine below_set ?_ (IsS25.ge HI136.out) | refine below_set ?_ GE145.out | refine below_set ?_ GE151.out | refine below_set ?_ GE155.out) | exact HB.out)))⟩; clear hw; clear BK145; clear BK151; clear BK155; clear HI136; clear HB; have BK145 := n0_; have BK151 := n1_; have BK155 := n2_; have HI136 := n3_; have HB := n4_; clear n0_ n1_ n2_ n3_ n4_; obtain ⟨⟨hcz66_0, hcz66_1, hcz66_2, hcz66_3⟩, hfz66_0, hfz66_1, hfz66_2, hfz66_3⟩ := cells4 BK145.out))
 go_meet
 case rel => exact ⟨_, (t169), (0), (x15_37), (t165), (t166), (t167), (t168), (by first | rfl | (simp; done) | (simp [*]; done)), (by first | rfl | (simp; done) | (simp [*]; done)), (by first | rfl | (simp; done) | (simp [*]; done)), H', ⟨by have := HJ6.out; have := HK2.out; have := HJ37.out; first | omega | exact Nat.le_refl _⟩, ⟨Bh BK145⟩, ⟨Bh BK151⟩, ⟨Bh BK155⟩, ⟨by repeat (first | (with_reducible first | exact HI136.out | apply IsS25.alloc | apply IsS25.drewN | apply IsS25.drew | apply IsS25.set_1 | apply IsS25.set_2 | refine IsS25.far ?_ NB136_145.out _ | refine IsS25.far ?_ NB136_151.out _ | refine IsS25.far ?_ NB136_155.out _) | exact HI136.out)⟩, ⟨by repeat (first | (with_reducible first | exact HB.out | apply below_alloc | apply pw_below_drewN | apply below_drew1 | refine below_set ?_ (IsS25.ge HI136.out) | refine below_set ?_ GE145.out | refine below_set ?_ GE151.out | refine below_set ?_ GE155.out) | exact HB.out)⟩⟩
 }
 {
 rw [if_neg c58] at H
 have c58b0 : (t167 == x15_37) = false := beq_eq_false_iff_ne.mpr c58
 have c58b1 : (t167 != x15_37) = true := bne_iff_ne.mpr c58
 obtain rfl := Option.some.inj H
 have hnb67 := NB145_151.out
 have hnc67 := NB151_145.out
 have hnb68 := NB145_155.out
 have hnc68 := NB155_145.out
 have hnb69 := NB145_136.out
 have hnc69 := NB136_145.out
 obtain ⟨⟨hcz70_0, hcz70_1, hcz70_2, hcz70_3⟩, hfz70_0, hfz70_1, hfz70_2, hfz70_3⟩ := cells4 BK145.out
 go_wp2_with (first | ((with_reducible refine gate_callee (f := 23) rfl ?_); refine goesL_ (some 107) rfl rfl Try.func23 (by kernel_rfl) rfl #[.agg #[.int .i64 x146000_2, .int .i64 x146001_2, .int .i64 x146002_2, .int .i64 x146003_2], .int .i64 t156] rfl wT ?_; (with_reducible refine (impl_CongLoss.calls kj37 x146000_2 x146001_2 x146002_2 x146003_2 t156 t165 t166 t167 t168 t169 _ A56.out).mono ?_); rintro e w71 ⟨rfl, hb⟩; refine ⟨_, rfl, ?_⟩; have n0_ := Aside0.mk (blk_below (Bh BK145) hb); have n1_ := Aside0.mk (blk_below (Bh BK151) hb); have n2_ := Aside0.mk (blk_below (Bh BK155) hb); have n3_ := Aside0.mk (IsS25.below (by repeat (first | (with_reducible first | exact HI136.out | apply IsS25.alloc | apply IsS25.drewN | apply IsS25.drew | apply IsS25.set_1 | apply IsS25.set_2 | refine IsS25.far ?_ NB136_145.out _ | refine IsS25.far ?_ NB136_151.out _ | refine IsS25.far ?_ NB136_155.out _) | exact HI136.out)) hb); have n4_ := Aside0.mk (below_step (by repeat (first | (with_reducible first | exact HB.out | apply below_alloc | apply pw_below_drewN | apply below_drew1 | refine below_set ?_ (IsS25.ge HI136.out) | refine below_set ?_ GE145.out | refine below_set ?_ GE151.out | refine below_set ?_ GE155.out) | exact HB.out)) hb); clear BK145; clear BK151; clear BK155; clear HI136; clear HB; have BK145 := n0_; have BK151 := n1_; have BK155 := n2_; have HI136 := n3_; have HB := n4_; clear n0_ n1_ n2_ n3_ n4_; (try clear hb); (try clear hb2); (try clear hk); (try clear hi); obtain ⟨⟨hcz72_0, hcz72_1, hcz72_2, hcz72_3⟩, hfz72_0, hfz72_1, hfz72_2, hfz72_3⟩ := cells4 BK145.out) | ((with_reducible refine gate_store (t := 36) (p := 5) rfl ?_); refine store_event (t := 36) (p := 5) (v := ?vo_w73) (w1 := ((((w71.setCell ⟨gb145, 0, none⟩ (.int .i64 t165)).setCell ⟨gb145, 1, none⟩ (.int .i64 t166)).setCell ⟨gb145, 2, none⟩ (.int .i64 t167)).setCell ⟨gb145, 3, none⟩ (.int .i64 t168))) ?hg ?ho ?hn ?hr ?_; (case ho => rfl); (case hg => rfl); (case hn => rfl); (case hr => first | (go_simp; done) | (go_simp; rfl)); intro w73 hw; have n0_ : Aside0 (w73.heap[gb145]? = some (.cells #[.int .i64 t165, .int .i64 t166, .int .i64 t167, .int .i64 t168] 36 (0, 0))) := ⟨(by rw [hw]; exact (by (with_reducible repeat (first | refine blk_drewN ?_ _ | refine blk_drew ?_ | refine blk_alloc ?_ _)); refine blk_put (cs := #[.int .i64 t165, .int .i64 t166, .int .i64 t167, .int .i64 x146003_2]) ?_ 3 _ rfl; (with_reducible repeat (first | refine blk_drewN ?_ _ | refine blk_drew ?_ | refine blk_alloc ?_ _)); refine blk_put (cs := #[.int .i64 t165, .int .i64 t166, .int .i64 x146002_2, .int .i64 x146003_2]) ?_ 2 _ rfl; (with_reducible repeat (first | refine blk_drewN ?_ _ | refine blk_drew ?_ | refine blk_alloc ?_ _)); refine blk_put (cs := #[.int .i64 t165, .int .i64 x146001_2, .int .i64 x146002_2, .int .i64 x146003_2]) ?_ 1 _ rfl; (with_reducible repeat (first | refine blk_drewN ?_ _ | refine blk_drew ?_ | refine blk_alloc ?_ _)); refine blk_put (cs := #[.int .i64 x146000_2, .int .i64 x146001_2, .int .i64 x146002_2, .int .i64 x146003_2]) ?_ 0 _ rfl; (with_reducible repeat (first | refine blk_drewN ?_ _ | refine blk_drew ?_ | refine blk_alloc ?_ _)); exact BK145.out))⟩; have n1_ : Aside0 (w73.heap[gb151]? = some (.cells #[.int .i64 t146, .int .i64 t147, .int .i64 t148, .int .i64 t149] 36 (0, 0))) := ⟨(by rw [hw]; exact (by (with_reducible repeat (first | refine blk_drewN ?_ _ | refine blk_drew ?_ | refine blk_alloc ?_ _)); refine blk_far ?_ NB151_145.out _; (with_reducible repeat (first | refine blk_drewN ?_ _ | refine blk_drew ?_ | refine blk_alloc ?_ _)); refine blk_far ?_ NB151_145.out _; (with_reducible repeat (first | refine blk_drewN ?_ _ | refine blk_drew ?_ | refine blk_alloc ?_ _)); refine blk_far ?_ NB151_145.out _; (with_reducible repeat (first | refine blk_drewN ?_ _ | refine blk_drew ?_ | refine blk_alloc ?_ _)); refine blk_far ?_ NB151_145.out _; (with_reducible repeat (first | refine blk_drewN ?_ _ | refine blk_drew ?_ | refine blk_alloc ?_ _)); exact BK151.out))⟩; have n2_ : Aside0 (w73.heap[gb155]? = some (.cells #[.int .i64 x146000_2, .int .i64 x146001_2, .int .i64 x146002_2, .int .i64 x146003_2] 36 (0, 0))) := ⟨(by rw [hw]; exact (by (with_reducible repeat (first | refine blk_drewN ?_ _ | refine blk_drew ?_ | refine blk_alloc ?_ _)); refine blk_far ?_ NB155_145.out _; (with_reducible repeat (first | refine blk_drewN ?_ _ | refine blk_drew ?_ | refine blk_alloc ?_ _)); refine blk_far ?_ NB155_145.out _; (with_reducible repeat (first | refine blk_drewN ?_ _ | refine blk_drew ?_ | refine blk_alloc ?_ _)); refine blk_far ?_ NB155_145.out _; (with_reducible repeat (first | refine blk_drewN ?_ _ | refine blk_drew ?_ | refine blk_alloc ?_ _)); refine blk_far ?_ NB155_145.out _; (with_reducible repeat (first | refine blk_drewN ?_ _ | refine blk_drew ?_ | refine blk_alloc ?_ _)); exact BK155.out))⟩; have n3_ : Aside0 (IsS25 w w73 gb136 l0 t163 t164) := ⟨(by rw [hw]; exact (by repeat (first | (with_reducible first | exact HI136.out | apply IsS25.alloc | apply IsS25.drewN | apply IsS25.drew | apply IsS25.set_1 | apply IsS25.set_2 | refine IsS25.far ?_ NB136_145.out _ | refine IsS25.far ?_ NB136_151.out _ | refine IsS25.far ?_ NB136_155.out _) | exact HI136.out)))⟩; have n4_ : Aside0 (Below w.heap.size w w73) := ⟨(by rw [hw]; exact (by repeat (first | (with_reducible first | exact HB.out | apply below_alloc | apply pw_below_drewN | apply below_drew1 | refine below_set ?_ (IsS25.ge HI136.out) | refine below_set ?_ GE145.out | refine below_set ?_ GE151.out | refine below_set ?_ GE155.out) | exact HB.out)))⟩; clear hw; clear BK145; clear BK151; clear BK155; clear HI136; clear HB; have BK145 := n0_; have BK151 := n1_; have BK155 := n2_; have HI136 := n3_; have HB := n4_; clear n0_ n1_ n2_ n3_ n4_; obtain ⟨⟨hcz74_0, hcz74_1, hcz74_2, hcz74_3⟩, hfz74_0, hfz74_1, hfz74_2, hfz74_3⟩ := cells4 BK145.out))
 go_ret
 exact ⟨by first | rfl | (simp [errW_none, errW_some] <;> rfl) | (simp [*, errW_none, errW_some] <;> rfl), by repeat (first | (with_reducible first | exact HB.out | apply below_alloc | apply pw_below_drewN | apply below_drew1 | refine below_set ?_ (IsS25.ge HI136.out) | refine below_set ?_ GE145.out | refine below_set ?_ GE151.out | refine below_set ?_ GE155.out) | exact HB.out)⟩
 }
 }
 {
 rw [if_neg c57] at H
 have c57b0 : (t166 == x15_37) = false := beq_eq_false_iff_ne.mpr c57
 have c57b1 : (t166 != x15_37) = true := bne_iff_ne.mpr c57
 obtain rfl := Option.some.inj H
 have hnb75 := NB145_151.out
 have hnc75 := NB151_145.out
 have hnb76 := NB145_155.out
 have hnc76 := NB155_145.out
 have hnb77 := NB145_136.out
 have hnc77 := NB136_145.out
 obtain ⟨⟨hcz78_0, hcz78_1, hcz78_2, hcz78_3⟩, hfz78_0, hfz78_1, hfz78_2, hfz78_3⟩ := cells4 BK145.out
 go_wp2_with (first | ((with_reducible refine gate_callee (f := 23) rfl ?_); refine goesL_ (some 107) rfl rfl Try.func23 (by kernel_rfl) rfl #[.agg #[.int .i64 x146000_2, .int .i64 x146001_2, .int .i64 x146002_2, .int .i64 x146003_2], .int .i64 t156] rfl wT ?_; (with_reducible refine (impl_CongLoss.calls kj37 x146000_2 x146001_2 x146002_2 x146003_2 t156 t165 t166 t167 t168 t169 _ A56.out).mono ?_); rintro e w79 ⟨rfl, hb⟩; refine ⟨_, rfl, ?_⟩; have n0_ := Aside0.mk (blk_below (Bh BK145) hb); have n1_ := Aside0.mk (blk_below (Bh BK151) hb); have n2_ := Aside0.mk (blk_below (Bh BK155) hb); have n3_ := Aside0.mk (IsS25.below (by repeat (first | (with_reducible first | exact HI136.out | apply IsS25.alloc | apply IsS25.drewN | apply IsS25.drew | apply IsS25.set_1 | apply IsS25.set_2 | refine IsS25.far ?_ NB136_145.out _ | refine IsS25.far ?_ NB136_151.out _ | refine IsS25.far ?_ NB136_155.out _) | exact HI136.out)) hb); have n4_ := Aside0.mk (below_step (by repeat (first | (with_reducible first | exact HB.out | apply below_alloc | apply pw_below_drewN | apply below_drew1 | refine below_set ?_ (IsS25.ge HI136.out) | refine below_set ?_ GE145.out | refine below_set ?_ GE151.out | refine below_set ?_ GE155.out) | exact HB.out)) hb); clear BK145; clear BK151; clear BK155; clear HI136; clear HB; have BK145 := n0_; have BK151 := n1_; have BK155 := n2_; have HI136 := n3_; have HB := n4_; clear n0_ n1_ n2_ n3_ n4_; (try clear hb); (try clear hb2); (try clear hk); (try clear hi); obtain ⟨⟨hcz80_0, hcz80_1, hcz80_2, hcz80_3⟩, hfz80_0, hfz80_1, hfz80_2, hfz80_3⟩ := cells4 BK145.out) | ((with_reducible refine gate_store (t := 36) (p := 5) rfl ?_); refine store_event (t := 36) (p := 5) (v := ?vo_w81) (w1 := ((((w79.setCell ⟨gb145, 0, none⟩ (.int .i64 t165)).setCell ⟨gb145, 1, none⟩ (.int .i64 t166)).setCell ⟨gb145, 2, none⟩ (.int .i64 t167)).setCell ⟨gb145, 3, none⟩ (.int .i64 t168))) ?hg ?ho ?hn ?hr ?_; (case ho => rfl); (case hg => rfl); (case hn => rfl); (case hr => first | (go_simp; done) | (go_simp; rfl)); intro w81 hw; have n0_ : Aside0 (w81.heap[gb145]? = some (.cells #[.int .i64 t165, .int .i64 t166, .int .i64 t167, .int .i64 t168] 36 (0, 0))) := ⟨(by rw [hw]; exact (by (with_reducible repeat (first | refine blk_drewN ?_ _ | refine blk_drew ?_ | refine blk_alloc ?_ _)); refine blk_put (cs := #[.int .i64 t165, .int .i64 t166, .int .i64 t167, .int .i64 x146003_2]) ?_ 3 _ rfl; (with_reducible repeat (first | refine blk_drewN ?_ _ | refine blk_drew ?_ | refine blk_alloc ?_ _)); refine blk_put (cs := #[.int .i64 t165, .int .i64 t166, .int .i64 x146002_2, .int .i64 x146003_2]) ?_ 2 _ rfl; (with_reducible repeat (first | refine blk_drewN ?_ _ | refine blk_drew ?_ | refine blk_alloc ?_ _)); refine blk_put (cs := #[.int .i64 t165, .int .i64 x146001_2, .int .i64 x146002_2, .int .i64 x146003_2]) ?_ 1 _ rfl; (with_reducible repeat (first | refine blk_drewN ?_ _ | refine blk_drew ?_ | refine blk_alloc ?_ _)); refine blk_put (cs := #[.int .i64 x146000_2, .int .i64 x146001_2, .int .i64 x146002_2, .int .i64 x146003_2]) ?_ 0 _ rfl; (with_reducible repeat (first | refine blk_drewN ?_ _ | refine blk_drew ?_ | refine blk_alloc ?_ _)); exact BK145.out))⟩; have n1_ : Aside0 (w81.heap[gb151]? = some (.cells #[.int .i64 t146, .int .i64 t147, .int .i64 t148, .int .i64 t149] 36 (0, 0))) := ⟨(by rw [hw]; exact (by (with_reducible repeat (first | refine blk_drewN ?_ _ | refine blk_drew ?_ | refine blk_alloc ?_ _)); refine blk_far ?_ NB151_145.out _; (with_reducible repeat (first | refine blk_drewN ?_ _ | refine blk_drew ?_ | refine blk_alloc ?_ _)); refine blk_far ?_ NB151_145.out _; (with_reducible repeat (first | refine blk_drewN ?_ _ | refine blk_drew ?_ | refine blk_alloc ?_ _)); refine blk_far ?_ NB151_145.out _; (with_reducible repeat (first | refine blk_drewN ?_ _ | refine blk_drew ?_ | refine blk_alloc ?_ _)); refine blk_far ?_ NB151_145.out _; (with_reducible repeat (first | refine blk_drewN ?_ _ | refine blk_drew ?_ | refine blk_alloc ?_ _)); exact BK151.out))⟩; have n2_ : Aside0 (w81.heap[gb155]? = some (.cells #[.int .i64 x146000_2, .int .i64 x146001_2, .int .i64 x146002_2, .int .i64 x146003_2] 36 (0, 0))) := ⟨(by rw [hw]; exact (by (with_reducible repeat (first | refine blk_drewN ?_ _ | refine blk_drew ?_ | refine blk_alloc ?_ _)); refine blk_far ?_ NB155_145.out _; (with_reducible repeat (first | refine blk_drewN ?_ _ | refine blk_drew ?_ | refine blk_alloc ?_ _)); refine blk_far ?_ NB155_145.out _; (with_reducible repeat (first | refine blk_drewN ?_ _ | refine blk_drew ?_ | refine blk_alloc ?_ _)); refine blk_far ?_ NB155_145.out _; (with_reducible repeat (first | refine blk_drewN ?_ _ | refine blk_drew ?_ | refine blk_alloc ?_ _)); refine blk_far ?_ NB155_145.out _; (with_reducible repeat (first | refine blk_drewN ?_ _ | refine blk_drew ?_ | refine blk_alloc ?_ _)); exact BK155.out))⟩; have n3_ : Aside0 (IsS25 w w81 gb136 l0 t163 t164) := ⟨(by rw [hw]; exact (by repeat (first | (with_reducible first | exact HI136.out | apply IsS25.alloc | apply IsS25.drewN | apply IsS25.drew | apply IsS25.set_1 | apply IsS25.set_2 | refine IsS25.far ?_ NB136_145.out _ | refine IsS25.far ?_ NB136_151.out _ | refine IsS25.far ?_ NB136_155.out _) | exact HI136.out)))⟩; have n4_ : Aside0 (Below w.heap.size w w81) := ⟨(by rw [hw]; exact (by repeat (first | (with_reducible first | exact HB.out | apply below_alloc | apply pw_below_drewN | apply below_drew1 | refine below_set ?_ (IsS25.ge HI136.out) | refine below_set ?_ GE145.out | refine below_set ?_ GE151.out | refine below_set ?_ GE155.out) | exact HB.out)))⟩; clear hw; clear BK145; clear BK151; clear BK155; clear HI136; clear HB; have BK145 := n0_; have BK151 := n1_; have BK155 := n2_; have HI136 := n3_; have HB := n4_; clear n0_ n1_ n2_ n3_ n4_; obtain ⟨⟨hcz82_0, hcz82_1, hcz82_2, hcz82_3⟩, hfz82_0, hfz82_1, hfz82_2, hfz82_3⟩ := cells4 BK145.out))
 go_ret
 exact ⟨by first | rfl | (simp [errW_none, errW_some] <;> rfl) | (simp [*, errW_none, errW_some] <;> rfl), by repeat (first | (with_reducible first | exact HB.out | apply below_alloc | apply pw_below_drewN | apply below_drew1 | refine below_set ?_ (IsS25.ge HI136.out) | refine below_set ?_ GE145.out | refine below_set ?_ GE151.out | refine below_set ?_ GE155.out) | exact HB.out)⟩
 }
 }
 {
 rw [if_neg c55] at H
 have c55b0 : (t162 == 0) = false := beq_eq_false_iff_ne.mpr c55
 have c55b1 : (t162 != 0) = true := bne_iff_ne.mpr c55
 (first | rw [c55b0] | (simp only [i64_w, i32_w]; rw [c55b0]) | skip)
 by_cases c83 : t162 = 1
 {
 rw [if_pos c83] at H
 have c83b0 : (t162 == 1) = true := beq_iff_eq.mpr c83
 have c83b1 : (t162 != 1) = false := bne_eq_false_iff_eq.mpr c83
 clear c83
 replace H := Option.bind_eq_some_iff.mp H
 obtain ⟨⟨t170, t171, t172, t173, t174⟩, A840, H⟩ := H
 replace H : (if t171 = (wrap64 (1 + t137)) then (if t172 = x15_37 then (laws_FnWindow.j4 kj37 (wrap64 (1 + t137)) t174 t141 0 (wrap64 (1 + t137)) x12_2 l0 t163 t164 t170 t171 t172 t173) else (some false)) else (some false)) = some r := H
 have A84 := Aside0.mk A840
 clear A840
 by_cases c85 : t171 = (wrap64 (1 + t137))
 {
 rw [if_pos c85] at H
 have c85b0 : (t171 == (wrap64 (1 + t137))) = true := beq_iff_eq.mpr c85
 have c85b1 : (t171 != (wrap64 (1 + t137))) = false := bne_eq_false_iff_eq.mpr c85
 clear c85
 by_cases c86 : t172 = x15_37
 {
 rw [if_pos c86] at H
 have c86b0 : (t172 == x15_37) = true := beq_iff_eq.mpr c86
 have c86b1 : (t172 != x15_37) = false := bne_eq_false_iff_eq.mpr c86
 clear c86
 have H' := Aside0.mk H
 clear H
 have hnb87 := NB145_151.out
 have hnc87 := NB151_145.out
 have hnb88 := NB145_155.out
 have hnc88 := NB155_145.out
 have hnb89 := NB145_136.out
 have hnc89 := NB136_145.out
 obtain ⟨⟨hcz90_0, hcz90_1, hcz90_2, hcz90_3⟩, hfz90_0, hfz90_1, hfz90_2, hfz90_3⟩ := cells4 BK145.out
 go_wp2_with (first | ((with_reducible refine gate_callee (f := 24) rfl ?_); refine goesL_ (some 126) rfl rfl Try.func24 (by kernel_rfl) rfl #[.agg #[.int .i64 x146000_2, .int .i64 x146001_2, .int .i64 x146002_2, .int .i64 x146003_2], .int .i64 t156] rfl wT ?_; (with_reducible refine (impl_CongTimeout.calls kj37 x146000_2 x146001_2 x146002_2 x146003_2 t156 t170 t171 t172 t173 t174 _ A84.out).mono ?_); rintro e w91 ⟨rfl, hb⟩; refine ⟨_, rfl, ?_⟩; have n0_ := Aside0.mk (blk_below (Bh BK145) hb); have n1_ := Aside0.mk (blk_below (Bh BK151) hb); have n2_ := Aside0.mk (blk_below (Bh BK155) hb); have n3_ := Aside0.mk (IsS25.below (by repeat (first | (with_reducible first | exact HI136.out | apply IsS25.alloc | apply IsS25.drewN | apply IsS25.drew | apply IsS25.set_1 | apply IsS25.set_2 | refine IsS25.far ?_ NB136_145.out _ | refine IsS25.far ?_ NB136_151.out _ | refine IsS25.far ?_ NB136_155.out _) | exact HI136.out)) hb); have n4_ := Aside0.mk (below_step (by repeat (first | (with_reducible first | exact HB.out | apply below_alloc | apply pw_below_drewN | apply below_drew1 | refine below_set ?_ (IsS25.ge HI136.out) | refine below_set ?_ GE145.out | refine below_set ?_ GE151.out | refine below_set ?_ GE155.out) | exact HB.out)) hb); clear BK145; clear BK151; clear BK155; clear HI136; clear HB; have BK145 := n0_; have BK151 := n1_; have BK155 := n2_; have HI136 := n3_; have HB := n4_; clear n0_ n1_ n2_ n3_ n4_; (try clear hb); (try clear hb2); (try clear hk); (try clear hi); obtain ⟨⟨hcz92_0, hcz92_1, hcz92_2, hcz92_3⟩, hfz92_0, hfz92_1, hfz92_2, hfz92_3⟩ := cells4 BK145.out) | ((with_reducible refine gate_store (t := 36) (p := 5) rfl ?_); refine store_event (t := 36) (p := 5) (v := ?vo_w93) (w1 := ((((w91.setCell ⟨gb145, 0, none⟩ (.int .i64 t170)).setCell ⟨gb145, 1, none⟩ (.int .i64 t171)).setCell ⟨gb145, 2, none⟩ (.int .i64 t172)).setCell ⟨gb145, 3, none⟩ (.int .i64 t173))) ?hg ?ho ?hn ?hr ?_; (case ho => rfl); (case hg => rfl); (case hn => rfl); (case hr => first | (go_simp; done) | (go_simp; rfl)); intro w93 hw; have n0_ : Aside0 (w93.heap[gb145]? = some (.cells #[.int .i64 t170, .int .i64 t171, .int .i64 t172, .int .i64 t173] 36 (0, 0))) := ⟨(by rw [hw]; exact (by (with_reducible repeat (first | refine blk_drewN ?_ _ | refine blk_drew ?_ | refine blk_alloc ?_ _)); refine blk_put (cs := #[.int .i64 t170, .int .i64 t171, .int .i64 t172, .int .i64 x146003_2]) ?_ 3 _ rfl; (with_reducible repeat (first | refine blk_drewN ?_ _ | refine blk_drew ?_ | refine blk_alloc ?_ _)); refine blk_put (cs := #[.int .i64 t170, .int .i64 t171, .int .i64 x146002_2, .int .i64 x146003_2]) ?_ 2 _ rfl; (with_reducible repeat (first | refine blk_drewN ?_ _ | refine blk_drew ?_ | refine blk_alloc ?_ _)); refine blk_put (cs := #[.int .i64 t170, .int .i64 x146001_2, .int .i64 x146002_2, .int .i64 x146003_2]) ?_ 1 _ rfl; (with_reducible repeat (first | refine blk_drewN ?_ _ | refine blk_drew ?_ | refine blk_alloc ?_ _)); refine blk_put (cs := #[.int .i64 x146000_2, .int .i64 x146001_2, .int .i64 x146002_2, .int .i64 x146003_2]) ?_ 0 _ rfl; (with_reducible repeat (first | refine blk_drewN ?_ _ | refine blk_drew ?_ | refine blk_alloc ?_ _)); exact BK145.out))⟩; have n1_ : Aside0 (w93.heap[gb151]? = some (.cells #[.int .i64 t146, .int .i64 t147, .int .i64 t148, .int .i64 t149] 36 (0, 0))) := ⟨(by rw [hw]; exact (by (with_reducible repeat (first | refine blk_drewN ?_ _ | refine blk_drew ?_ | refine blk_alloc ?_ _)); refine blk_far ?_ NB151_145.out _; (with_reducible repeat (first | refine blk_drewN ?_ _ | refine blk_drew ?_ | refine blk_alloc ?_ _)); refine blk_far ?_ NB151_145.out _; (with_reducible repeat (first | refine blk_drewN ?_ _ | refine blk_drew ?_ | refine blk_alloc ?_ _)); refine blk_far ?_ NB151_145.out _; (with_reducible repeat (first | refine blk_drewN ?_ _ | refine blk_drew ?_ | refine blk_alloc ?_ _)); refine blk_far ?_ NB151_145.out _; (with_reducible repeat (first | refine blk_drewN ?_ _ | refine blk_drew ?_ | refine blk_alloc ?_ _)); exact BK151.out))⟩; have n2_ : Aside0 (w93.heap[gb155]? = some (.cells #[.int .i64 x146000_2, .int .i64 x146001_2, .int .i64 x146002_2, .int .i64 x146003_2] 36 (0, 0))) := ⟨(by rw [hw]; exact (by (with_reducible repeat (first | refine blk_drewN ?_ _ | refine blk_drew ?_ | refine blk_alloc ?_ _)); refine blk_far ?_ NB155_145.out _; (with_reducible repeat (first | refine blk_drewN ?_ _ | refine blk_drew ?_ | refine blk_alloc ?_ _)); refine blk_far ?_ NB155_145.out _; (with_reducible repeat (first | refine blk_drewN ?_ _ | refine blk_drew ?_ | refine blk_alloc ?_ _)); refine blk_far ?_ NB155_145.out _; (with_reducible repeat (first | refine blk_drewN ?_ _ | refine blk_drew ?_ | refine blk_alloc ?_ _)); refine blk_far ?_ NB155_145.out _; (with_reducible repeat (first | refine blk_drewN ?_ _ | refine blk_drew ?_ | refine blk_alloc ?_ _)); exact BK155.out))⟩; have n3_ : Aside0 (IsS25 w w93 gb136 l0 t163 t164) := ⟨(by rw [hw]; exact (by repeat (first | (with_reducible first | exact HI136.out | apply IsS25.alloc | apply IsS25.drewN | apply IsS25.drew | apply IsS25.set_1 | apply IsS25.set_2 | refine IsS25.far ?_ NB136_145.out _ | refine IsS25.far ?_ NB136_151.out _ | refine IsS25.far ?_ NB136_155.out _) | exact HI136.out)))⟩; have n4_ : Aside0 (Below w.heap.size w w93) := ⟨(by rw [hw]; exact (by repeat (first | (with_reducible first | exact HB.out | apply below_alloc | apply pw_below_drewN | apply below_drew1 | refine below_set ?_ (IsS25.ge HI136.out) | refine below_set ?_ GE145.out | refine below_set ?_ GE151.out | refine below_set ?_ GE155.out) | exact HB.out)))⟩; clear hw; clear BK145; clear BK151; clear BK155; clear HI136; clear HB; have BK145 := n0_; have BK151 := n1_; have BK155 := n2_; have HI136 := n3_; have HB := n4_; clear n0_ n1_ n2_ n3_ n4_; obtain ⟨⟨hcz94_0, hcz94_1, hcz94_2, hcz94_3⟩, hfz94_0, hfz94_1, hfz94_2, hfz94_3⟩ := cells4 BK145.out))
 go_meet
 case rel => exact ⟨_, (t174), (0), ((wrap64 (1 + t137))), (t170), (t171), (t172), (t173), (by first | rfl | (simp; done) | (simp [*]; done)), (by first | rfl | (simp; done) | (simp [*]; done)), (by first | rfl | (simp; done) | (simp [*]; done)), H', ⟨by have := HJ6.out; have := HK2.out; have := HJ37.out; first | omega | exact Nat.le_refl _⟩, ⟨Bh BK145⟩, ⟨Bh BK151⟩, ⟨Bh BK155⟩, ⟨by repeat (first | (with_reducible first | exact HI136.out | apply IsS25.alloc | apply IsS25.drewN | apply IsS25.drew | apply IsS25.set_1 | apply IsS25.set_2 | refine IsS25.far ?_ NB136_145.out _ | refine IsS25.far ?_ NB136_151.out _ | refine IsS25.far ?_ NB136_155.out _) | exact HI136.out)⟩, ⟨by repeat (first | (with_reducible first | exact HB.out | apply below_alloc | apply pw_below_drewN | apply below_drew1 | refine below_set ?_ (IsS25.ge HI136.out) | refine below_set ?_ GE145.out | refine below_set ?_ GE151.out | refine below_set ?_ GE155.out) | exact HB.out)⟩⟩
 }
 {
 rw [if_neg c86] at H
 have c86b0 : (t172 == x15_37) = false := beq_eq_false_iff_ne.mpr c86
 have c86b1 : (t172 != x15_37) = true := bne_iff_ne.mpr c86
 obtain rfl := Option.some.inj H
 have hnb95 := NB145_151.out
 have hnc95 := NB151_145.out
 have hnb96 := NB145_155.out
 have hnc96 := NB155_145.out
 have hnb97 := NB145_136.out
 have hnc97 := NB136_145.out
 obtain ⟨⟨hcz98_0, hcz98_1, hcz98_2, hcz98_3⟩, hfz98_0, hfz98_1, hfz98_2, hfz98_3⟩ := cells4 BK145.out
 go_wp2_with (first | ((with_reducible refine gate_callee (f := 24) rfl ?_); refine goesL_ (some 126) rfl rfl Try.func24 (by kernel_rfl) rfl #[.agg #[.int .i64 x146000_2, .int .i64 x146001_2, .int .i64 x146002_2, .int .i64 x146003_2], .int .i64 t156] rfl wT ?_; (with_reducible refine (impl_CongTimeout.calls kj37 x146000_2 x146001_2 x146002_2 x146003_2 t156 t170 t171 t172 t173 t174 _ A84.out).mono ?_); rintro e w99 ⟨rfl, hb⟩; refine ⟨_, rfl, ?_⟩; have n0_ := Aside0.mk (blk_below (Bh BK145) hb); have n1_ := Aside0.mk (blk_below (Bh BK151) hb); have n2_ := Aside0.mk (blk_below (Bh BK155) hb); have n3_ := Aside0.mk (IsS25.below (by repeat (first | (with_reducible first | exact HI136.out | apply IsS25.alloc | apply IsS25.drewN | apply IsS25.drew | apply IsS25.set_1 | apply IsS25.set_2 | refine IsS25.far ?_ NB136_145.out _ | refine IsS25.far ?_ NB136_151.out _ | refine IsS25.far ?_ NB136_155.out _) | exact HI136.out)) hb); have n4_ := Aside0.mk (below_step (by repeat (first | (with_reducible first | exact HB.out | apply below_alloc | apply pw_below_drewN | apply below_drew1 | refine below_set ?_ (IsS25.ge HI136.out) | refine below_set ?_ GE145.out | refine below_set ?_ GE151.out | refine below_set ?_ GE155.out) | exact HB.out)) hb); clear BK145; clear BK151; clear BK155; clear HI136; clear HB; have BK145 := n0_; have BK151 := n1_; have BK155 := n2_; have HI136 := n3_; have HB := n4_; clear n0_ n1_ n2_ n3_ n4_; (try clear hb); (try clear hb2); (try clear hk); (try clear hi); obtain ⟨⟨hcz100_0, hcz100_1, hcz100_2, hcz100_3⟩, hfz100_0, hfz100_1, hfz100_2, hfz100_3⟩ := cells4 BK145.out) | ((with_reducible refine gate_store (t := 36) (p := 5) rfl ?_); refine store_event (t := 36) (p := 5) (v := ?vo_w101) (w1 := ((((w99.setCell ⟨gb145, 0, none⟩ (.int .i64 t170)).setCell ⟨gb145, 1, none⟩ (.int .i64 t171)).setCell ⟨gb145, 2, none⟩ (.int .i64 t172)).setCell ⟨gb145, 3, none⟩ (.int .i64 t173))) ?hg ?ho ?hn ?hr ?_; (case ho => rfl); (case hg => rfl); (case hn => rfl); (case hr => first | (go_simp; done) | (go_simp; rfl)); intro w101 hw; have n0_ : Aside0 (w101.heap[gb145]? = some (.cells #[.int .i64 t170, .int .i64 t171, .int .i64 t172, .int .i64 t173] 36 (0, 0))) := ⟨(by rw [hw]; exact (by (with_reducible repeat (first | refine blk_drewN ?_ _ | refine blk_drew ?_ | refine blk_alloc ?_ _)); refine blk_put (cs := #[.int .i64 t170, .int .i64 t171, .int .i64 t172, .int .i64 x146003_2]) ?_ 3 _ rfl; (with_reducible repeat (first | refine blk_drewN ?_ _ | refine blk_drew ?_ | refine blk_alloc ?_ _)); refine blk_put (cs := #[.int .i64 t170, .int .i64 t171, .int .i64 x146002_2, .int .i64 x146003_2]) ?_ 2 _ rfl; (with_reducible repeat (first | refine blk_drewN ?_ _ | refine blk_drew ?_ | refine blk_alloc ?_ _)); refine blk_put (cs := #[.int .i64 t170, .int .i64 x146001_2, .int .i64 x146002_2, .int .i64 x146003_2]) ?_ 1 _ rfl; (with_reducible repeat (first | refine blk_drewN ?_ _ | refine blk_drew ?_ | refine blk_alloc ?_ _)); refine blk_put (cs := #[.int .i64 x146000_2, .int .i64 x146001_2, .int .i64 x146002_2, .int .i64 x146003_2]) ?_ 0 _ rfl; (with_reducible repeat (first | refine blk_drewN ?_ _ | refine blk_drew ?_ | refine blk_alloc ?_ _)); exact BK145.out))⟩; have n1_ : Aside0 (w101.heap[gb151]? = some (.cells #[.int .i64 t146, .int .i64 t147, .int .i64 t148, .int .i64 t149] 36 (0, 0))) := ⟨(by rw [hw]; exact (by (with_reducible repeat (first | refine blk_drewN ?_ _ | refine blk_drew ?_ | refine blk_alloc ?_ _)); refine blk_far ?_ NB151_145.out _; (with_reducible repeat (first | refine blk_drewN ?_ _ | refine blk_drew ?_ | refine blk_alloc ?_ _)); refine blk_far ?_ NB151_145.out _; (with_reducible repeat (first | refine blk_drewN ?_ _ | refine blk_drew ?_ | refine blk_alloc ?_ _)); refine blk_far ?_ NB151_145.out _; (with_reducible repeat (first | refine blk_drewN ?_ _ | refine blk_drew ?_ | refine blk_alloc ?_ _)); refine blk_far ?_ NB151_145.out _; (with_reducible repeat (first | refine blk_drewN ?_ _ | refine blk_drew ?_ | refine blk_alloc ?_ _)); exact BK151.out))⟩; have n2_ : Aside0 (w101.heap[gb155]? = some (.cells #[.int .i64 x146000_2, .int .i64 x146001_2, .int .i64 x146002_2, .int .i64 x146003_2] 36 (0, 0))) := ⟨(by rw [hw]; exact (by (with_reducible repeat (first | refine blk_drewN ?_ _ | refine blk_drew ?_ | refine blk_alloc ?_ _)); refine blk_far ?_ NB155_145.out _; (with_reducible repeat (first | refine blk_drewN ?_ _ | refine blk_drew ?_ | refine blk_alloc ?_ _)); refine blk_far ?_ NB155_145.out _; (with_reducible repeat (first | refine blk_drewN ?_ _ | refine blk_drew ?_ | refine blk_alloc ?_ _)); refine blk_far ?_ NB155_145.out _; (with_reducible repeat (first | refine blk_drewN ?_ _ | refine blk_drew ?_ | refine blk_alloc ?_ _)); refine blk_far ?_ NB155_145.out _; (with_reducible repeat (first | refine blk_drewN ?_ _ | refine blk_drew ?_ | refine blk_alloc ?_ _)); exact BK155.out))⟩; have n3_ : Aside0 (IsS25 w w101 gb136 l0 t163 t164) := ⟨(by rw [hw]; exact (by repeat (first | (with_reducible first | exact HI136.out | apply IsS25.alloc | apply IsS25.drewN | apply IsS25.drew | apply IsS25.set_1 | apply IsS25.set_2 | refine IsS25.far ?_ NB136_145.out _ | refine IsS25.far ?_ NB136_151.out _ | refine IsS25.far ?_ NB136_155.out _) | exact HI136.out)))⟩; have n4_ : Aside0 (Below w.heap.size w w101) := ⟨(by rw [hw]; exact (by repeat (first | (with_reducible first | exact HB.out | apply below_alloc | apply pw_below_drewN | apply below_drew1 | refine below_set ?_ (IsS25.ge HI136.out) | refine below_set ?_ GE145.out | refine below_set ?_ GE151.out | refine below_set ?_ GE155.out) | exact HB.out)))⟩; clear hw; clear BK145; clear BK151; clear BK155; clear HI136; clear HB; have BK145 := n0_; have BK151 := n1_; have BK155 := n2_; have HI136 := n3_; have HB := n4_; clear n0_ n1_ n2_ n3_ n4_; obtain ⟨⟨hcz102_0, hcz102_1, hcz102_2, hcz102_3⟩, hfz102_0, hfz102_1, hfz102_2, hfz102_3⟩ := cells4 BK145.out))
 go_ret
 exact ⟨by first | rfl | (simp [errW_none, errW_some] <;> rfl) | (simp [*, errW_none, errW_some] <;> rfl), by repeat (first | (with_reducible first | exact HB.out | apply below_alloc | apply pw_below_drewN | apply below_drew1 | refine below_set ?_ (IsS25.ge HI136.out) | refine below_set ?_ GE145.out | refine below_set ?_ GE151.out | refine below_set ?_ GE155.out) | exact HB.out)⟩
 }
 }
 {
 rw [if_neg c85] at H
 have c85b0 : (t171 == (wrap64 (1 + t137))) = false := beq_eq_false_iff_ne.mpr c85
 have c85b1 : (t171 != (wrap64 (1 + t137))) = true := bne_iff_ne.mpr c85
 obtain rfl := Option.some.inj H
 have hnb103 := NB145_151.out
 have hnc103 := NB151_145.out
 have hnb104 := NB145_155.out
 have hnc104 := NB155_145.out
 have hnb105 := NB145_136.out
 have hnc105 := NB136_145.out
 obtain ⟨⟨hcz106_0, hcz106_1, hcz106_2, hcz106_3⟩, hfz106_0, hfz106_1, hfz106_2, hfz106_3⟩ := cells4 BK145.out
 go_wp2_with (first | ((with_reducible refine gate_callee (f := 24) rfl ?_); refine goesL_ (some 126) rfl rfl Try.func24 (by kernel_rfl) rfl #[.agg #[.int .i64 x146000_2, .int .i64 x146001_2, .int .i64 x146002_2, .int .i64 x146003_2], .int .i64 t156] rfl wT ?_; (with_reducible refine (impl_CongTimeout.calls kj37 x146000_2 x146001_2 x146002_2 x146003_2 t156 t170 t171 t172 t173 t174 _ A84.out).mono ?_); rintro e w107 ⟨rfl, hb⟩; refine ⟨_, rfl, ?_⟩; have n0_ := Aside0.mk (blk_below (Bh BK145) hb); have n1_ := Aside0.mk (blk_below (Bh BK151) hb); have n2_ := Aside0.mk (blk_below (Bh BK155) hb); have n3_ := Aside0.mk (IsS25.below (by repeat (first | (with_reducible first | exact HI136.out | apply IsS25.alloc | apply IsS25.drewN | apply IsS25.drew | apply IsS25.set_1 | apply IsS25.set_2 | refine IsS25.far ?_ NB136_145.out _ | refine IsS25.far ?_ NB136_151.out _ | refine IsS25.far ?_ NB136_155.out _) | exact HI136.out)) hb); have n4_ := Aside0.mk (below_step (by repeat (first | (with_reducible first | exact HB.out | apply below_alloc | apply pw_below_drewN | apply below_drew1 | refine below_set ?_ (IsS25.ge HI136.out) | refine below_set ?_ GE145.out | refine below_set ?_ GE151.out | refine below_set ?_ GE155.out) | exact HB.out)) hb); clear BK145; clear BK151; clear BK155; clear HI136; clear HB; have BK145 := n0_; have BK151 := n1_; have BK155 := n2_; have HI136 := n3_; have HB := n4_; clear n0_ n1_ n2_ n3_ n4_; (try clear hb); (try clear hb2); (try clear hk); (try clear hi); obtain ⟨⟨hcz108_0, hcz108_1, hcz108_2, hcz108_3⟩, hfz108_0, hfz108_1, hfz108_2, hfz108_3⟩ := cells4 BK145.out) | ((with_reducible refine gate_store (t := 36) (p := 5) rfl ?_); refine store_event (t := 36) (p := 5) (v := ?vo_w109) (w1 := ((((w107.setCell ⟨gb145, 0, none⟩ (.int .i64 t170)).setCell ⟨gb145, 1, none⟩ (.int .i64 t171)).setCell ⟨gb145, 2, none⟩ (.int .i64 t172)).setCell ⟨gb145, 3, none⟩ (.int .i64 t173))) ?hg ?ho ?hn ?hr ?_; (case ho => rfl); (case hg => rfl); (case hn => rfl); (case hr => first | (go_simp; done) | (go_simp; rfl)); intro w109 hw; have n0_ : Aside0 (w109.heap[gb145]? = some (.cells #[.int .i64 t170, .int .i64 t171, .int .i64 t172, .int .i64 t173] 36 (0, 0))) := ⟨(by rw [hw]; exact (by (with_reducible repeat (first | refine blk_drewN ?_ _ | refine blk_drew ?_ | refine blk_alloc ?_ _)); refine blk_put (cs := #[.int .i64 t170, .int .i64 t171, .int .i64 t172, .int .i64 x146003_2]) ?_ 3 _ rfl; (with_reducible repeat (first | refine blk_drewN ?_ _ | refine blk_drew ?_ | refine blk_alloc ?_ _)); refine blk_put (cs := #[.int .i64 t170, .int .i64 t171, .int .i64 x146002_2, .int .i64 x146003_2]) ?_ 2 _ rfl; (with_reducible repeat (first | refine blk_drewN ?_ _ | refine blk_drew ?_ | refine blk_alloc ?_ _)); refine blk_put (cs := #[.int .i64 t170, .int .i64 x146001_2, .int .i64 x146002_2, .int .i64 x146003_2]) ?_ 1 _ rfl; (with_reducible repeat (first | refine blk_drewN ?_ _ | refine blk_drew ?_ | refine blk_alloc ?_ _)); refine blk_put (cs := #[.int .i64 x146000_2, .int .i64 x146001_2, .int .i64 x146002_2, .int .i64 x146003_2]) ?_ 0 _ rfl; (with_reducible repeat (first | refine blk_drewN ?_ _ | refine blk_drew ?_ | refine blk_alloc ?_ _)); exact BK145.out))⟩; have n1_ : Aside0 (w109.heap[gb151]? = some (.cells #[.int .i64 t146, .int .i64 t147, .int .i64 t148, .int .i64 t149] 36 (0, 0))) := ⟨(by rw [hw]; exact (by (with_reducible repeat (first | refine blk_drewN ?_ _ | refine blk_drew ?_ | refine blk_alloc ?_ _)); refine blk_far ?_ NB151_145.out _; (with_reducible repeat (first | refine blk_drewN ?_ _ | refine blk_drew ?_ | refine blk_alloc ?_ _)); refine blk_far ?_ NB151_145.out _; (with_reducible repeat (first | refine blk_drewN ?_ _ | refine blk_drew ?_ | refine blk_alloc ?_ _)); refine blk_far ?_ NB151_145.out _; (with_reducible repeat (first | refine blk_drewN ?_ _ | refine blk_drew ?_ | refine blk_alloc ?_ _)); refine blk_far ?_ NB151_145.out _; (with_reducible repeat (first | refine blk_drewN ?_ _ | refine blk_drew ?_ | refine blk_alloc ?_ _)); exact BK151.out))⟩; have n2_ : Aside0 (w109.heap[gb155]? = some (.cells #[.int .i64 x146000_2, .int .i64 x146001_2, .int .i64 x146002_2, .int .i64 x146003_2] 36 (0, 0))) := ⟨(by rw [hw]; exact (by (with_reducible repeat (first | refine blk_drewN ?_ _ | refine blk_drew ?_ | refine blk_alloc ?_ _)); refine blk_far ?_ NB155_145.out _; (with_reducible repeat (first | refine blk_drewN ?_ _ | refine blk_drew ?_ | refine blk_alloc ?_ _)); refine blk_far ?_ NB155_145.out _; (with_reducible repeat (first | refine blk_drewN ?_ _ | refine blk_drew ?_ | refine blk_alloc ?_ _)); refine blk_far ?_ NB155_145.out _; (with_reducible repeat (first | refine blk_drewN ?_ _ | refine blk_drew ?_ | refine blk_alloc ?_ _)); refine blk_far ?_ NB155_145.out _; (with_reducible repeat (first | refine blk_drewN ?_ _ | refine blk_drew ?_ | refine blk_alloc ?_ _)); exact BK155.out))⟩; have n3_ : Aside0 (IsS25 w w109 gb136 l0 t163 t164) := ⟨(by rw [hw]; exact (by repeat (first | (with_reducible first | exact HI136.out | apply IsS25.alloc | apply IsS25.drewN | apply IsS25.drew | apply IsS25.set_1 | apply IsS25.set_2 | refine IsS25.far ?_ NB136_145.out _ | refine IsS25.far ?_ NB136_151.out _ | refine IsS25.far ?_ NB136_155.out _) | exact HI136.out)))⟩; have n4_ : Aside0 (Below w.heap.size w w109) := ⟨(by rw [hw]; exact (by repeat (first | (with_reducible first | exact HB.out | apply below_alloc | apply pw_below_drewN | apply below_drew1 | refine below_set ?_ (IsS25.ge HI136.out) | refine below_set ?_ GE145.out | refine below_set ?_ GE151.out | refine below_set ?_ GE155.out) | exact HB.out)))⟩; clear hw; clear BK145; clear BK151; clear BK155; clear HI136; clear HB; have BK145 := n0_; have BK151 := n1_; have BK155 := n2_; have HI136 := n3_; have HB := n4_; clear n0_ n1_ n2_ n3_ n4_; obtain ⟨⟨hcz110_0, hcz110_1, hcz110_2, hcz110_3⟩, hfz110_0, hfz110_1, hfz110_2, hfz110_3⟩ := cells4 BK145.out))
 go_ret
 exact ⟨by first | rfl | (simp [errW_none, errW_some] <;> rfl) | (simp [*, errW_none, errW_some] <;> rfl), by repeat (first | (with_reducible first | exact HB.out | apply below_alloc | apply pw_below_drewN | apply below_drew1 | refine below_set ?_ (IsS25.ge HI136.out) | refine below_set ?_ GE145.out | refine below_set ?_ GE151.out | refine below_set ?_ GE155.out) | exact HB.out)⟩
 }
 }
 {
 rw [if_neg c83] at H
 have c83b0 : (t162 == 1) = false := beq_eq_false_iff_ne.mpr c83
 have c83b1 : (t162 != 1) = true := bne_iff_ne.mpr c83
 by_cases c111 : t162 = 2
 {
 rw [if_pos c111] at H
 have c111b0 : (t162 == 2) = true := beq_iff_eq.mpr c111
 have c111b1 : (t162 != 2) = false := bne_eq_false_iff_eq.mpr c111
 clear c111
 replace H := Option.bind_eq_some_iff.mp H
 obtain ⟨⟨t175, t176, t177, t178, t179⟩, A1120, H⟩ := H
 replace H : (if t176 > x146001_2 then (some false) else (if t176 > t141 then (some false) else (laws_FnWindow.j4 kj37 (wrap64 (1 + t137)) t179 t141 0 t176 x12_2 l0 t163 t164 t175 t176 t177 t178))) = some r := H
 have A112 := Aside0.mk A1120
 clear A1120
 by_cases c113 : t176 > x146001_2
 {
 rw [if_pos c113] at H
 have c113b0 : decide (x146001_2 < t176) = true := decide_eq_true c113
 clear c113
 obtain rfl := Option.some.inj H
 have hnb114 := NB145_151.out
 have hnc114 := NB151_145.out
 have hnb115 := NB145_155.out
 have hnc115 := NB155_145.out
 have hnb116 := NB145_136.out
 have hnc116 := NB136_145.out
 obtain ⟨⟨hcz117_0, hcz117_1, hcz117_2, hcz117_3⟩, hfz117_0, hfz117_1, hfz117_2, hfz117_3⟩ := cells4 BK145.out
 go_wp2_with (first | ((with_reducible refine gate_callee (f := 25) rfl ?_); refine goesL_ (some 144) rfl rfl Try.func25 (by kernel_rfl) rfl #[.agg #[.int .i64 x146000_2, .int .i64 x146001_2, .int .i64 x146002_2, .int .i64 x146003_2]] rfl wT ?_; (with_reducible refine (impl_CongIdle.calls x146000_2 x146001_2 x146002_2 x146003_2 t175 t176 t177 t178 t179 _ A112.out).mono ?_); rintro e w118 ⟨rfl, hb⟩; refine ⟨_, rfl, ?_⟩; have n0_ := Aside0.mk (blk_below (Bh BK145) hb); have n1_ := Aside0.mk (blk_below (Bh BK151) hb); have n2_ := Aside0.mk (blk_below (Bh BK155) hb); have n3_ := Aside0.mk (IsS25.below (by repeat (first | (with_reducible first | exact HI136.out | apply IsS25.alloc | apply IsS25.drewN | apply IsS25.drew | apply IsS25.set_1 | apply IsS25.set_2 | refine IsS25.far ?_ NB136_145.out _ | refine IsS25.far ?_ NB136_151.out _ | refine IsS25.far ?_ NB136_155.out _) | exact HI136.out)) hb); have n4_ := Aside0.mk (below_step (by repeat (first | (with_reducible first | exact HB.out | apply below_alloc | apply pw_below_drewN | apply below_drew1 | refine below_set ?_ (IsS25.ge HI136.out) | refine below_set ?_ GE145.out | refine below_set ?_ GE151.out | refine below_set ?_ GE155.out) | exact HB.out)) hb); clear BK145; clear BK151; clear BK155; clear HI136; clear HB; have BK145 := n0_; have BK151 := n1_; have BK155 := n2_; have HI136 := n3_; have HB := n4_; clear n0_ n1_ n2_ n3_ n4_; (try clear hb); (try clear hb2); (try clear hk); (try clear hi); obtain ⟨⟨hcz119_0, hcz119_1, hcz119_2, hcz119_3⟩, hfz119_0, hfz119_1, hfz119_2, hfz119_3⟩ := cells4 BK145.out) | ((with_reducible refine gate_store (t := 36) (p := 5) rfl ?_); refine store_event (t := 36) (p := 5) (v := ?vo_w120) (w1 := ((((w118.setCell ⟨gb145, 0, none⟩ (.int .i64 t175)).setCell ⟨gb145, 1, none⟩ (.int .i64 t176)).setCell ⟨gb145, 2, none⟩ (.int .i64 t177)).setCell ⟨gb145, 3, none⟩ (.int .i64 t178))) ?hg ?ho ?hn ?hr ?_; (case ho => rfl); (case hg => rfl); (case hn => rfl); (case hr => first | (go_simp; done) | (go_simp; rfl)); intro w120 hw; have n0_ : Aside0 (w120.heap[gb145]? = some (.cells #[.int .i64 t175, .int .i64 t176, .int .i64 t177, .int .i64 t178] 36 (0, 0))) := ⟨(by rw [hw]; exact (by (with_reducible repeat (first | refine blk_drewN ?_ _ | refine blk_drew ?_ | refine blk_alloc ?_ _)); refine blk_put (cs := #[.int .i64 t175, .int .i64 t176, .int .i64 t177, .int .i64 x146003_2]) ?_ 3 _ rfl; (with_reducible repeat (first | refine blk_drewN ?_ _ | refine blk_drew ?_ | refine blk_alloc ?_ _)); refine blk_put (cs := #[.int .i64 t175, .int .i64 t176, .int .i64 x146002_2, .int .i64 x146003_2]) ?_ 2 _ rfl; (with_reducible repeat (first | refine blk_drewN ?_ _ | refine blk_drew ?_ | refine blk_alloc ?_ _)); refine blk_put (cs := #[.int .i64 t175, .int .i64 x146001_2, .int .i64 x146002_2, .int .i64 x146003_2]) ?_ 1 _ rfl; (with_reducible repeat (first | refine blk_drewN ?_ _ | refine blk_drew ?_ | refine blk_alloc ?_ _)); refine blk_put (cs := #[.int .i64 x146000_2, .int .i64 x146001_2, .int .i64 x146002_2, .int .i64 x146003_2]) ?_ 0 _ rfl; (with_reducible repeat (first | refine blk_drewN ?_ _ | refine blk_drew ?_ | refine blk_alloc ?_ _)); exact BK145.out))⟩; have n1_ : Aside0 (w120.heap[gb151]? = some (.cells #[.int .i64 t146, .int .i64 t147, .int .i64 t148, .int .i64 t149] 36 (0, 0))) := ⟨(by rw [hw]; exact (by (with_reducible repeat (first | refine blk_drewN ?_ _ | refine blk_drew ?_ | refine blk_alloc ?_ _)); refine blk_far ?_ NB151_145.out _; (with_reducible repeat (first | refine blk_drewN ?_ _ | refine blk_drew ?_ | refine blk_alloc ?_ _)); refine blk_far ?_ NB151_145.out _; (with_reducible repeat (first | refine blk_drewN ?_ _ | refine blk_drew ?_ | refine blk_alloc ?_ _)); refine blk_far ?_ NB151_145.out _; (with_reducible repeat (first | refine blk_drewN ?_ _ | refine blk_drew ?_ | refine blk_alloc ?_ _)); refine blk_far ?_ NB151_145.out _; (with_reducible repeat (first | refine blk_drewN ?_ _ | refine blk_drew ?_ | refine blk_alloc ?_ _)); exact BK151.out))⟩; have n2_ : Aside0 (w120.heap[gb155]? = some (.cells #[.int .i64 x146000_2, .int .i64 x146001_2, .int .i64 x146002_2, .int .i64 x146003_2] 36 (0, 0))) := ⟨(by rw [hw]; exact (by (with_reducible repeat (first | refine blk_drewN ?_ _ | refine blk_drew ?_ | refine blk_alloc ?_ _)); refine blk_far ?_ NB155_145.out _; (with_reducible repeat (first | refine blk_drewN ?_ _ | refine blk_drew ?_ | refine blk_alloc ?_ _)); refine blk_far ?_ NB155_145.out _; (with_reducible repeat (first | refine blk_drewN ?_ _ | refine blk_drew ?_ | refine blk_alloc ?_ _)); refine blk_far ?_ NB155_145.out _; (with_reducible repeat (first | refine blk_drewN ?_ _ | refine blk_drew ?_ | refine blk_alloc ?_ _)); refine blk_far ?_ NB155_145.out _; (with_reducible repeat (first | refine blk_drewN ?_ _ | refine blk_drew ?_ | refine blk_alloc ?_ _)); exact BK155.out))⟩; have n3_ : Aside0 (IsS25 w w120 gb136 l0 t163 t164) := ⟨(by rw [hw]; exact (by repeat (first | (with_reducible first | exact HI136.out | apply IsS25.alloc | apply IsS25.drewN | apply IsS25.drew | apply IsS25.set_1 | apply IsS25.set_2 | refine IsS25.far ?_ NB136_145.out _ | refine IsS25.far ?_ NB136_151.out _ | refine IsS25.far ?_ NB136_155.out _) | exact HI136.out)))⟩; have n4_ : Aside0 (Below w.heap.size w w120) := ⟨(by rw [hw]; exact (by repeat (first | (with_reducible first | exact HB.out | apply below_alloc | apply pw_below_drewN | apply below_drew1 | refine below_set ?_ (IsS25.ge HI136.out) | refine below_set ?_ GE145.out | refine below_set ?_ GE151.out | refine below_set ?_ GE155.out) | exact HB.out)))⟩; clear hw; clear BK145; clear BK151; clear BK155; clear HI136; clear HB; have BK145 := n0_; have BK151 := n1_; have BK155 := n2_; have HI136 := n3_; have HB := n4_; clear n0_ n1_ n2_ n3_ n4_; obtain ⟨⟨hcz121_0, hcz121_1, hcz121_2, hcz121_3⟩, hfz121_0, hfz121_1, hfz121_2, hfz121_3⟩ := cells4 BK145.out; have hnb122 := NB155_151.out; have hnc122 := NB151_155.out; have hnb123 := NB155_136.out; have hnc123 := NB136_155.out; obtain ⟨⟨hcz124_0, hcz124_1, hcz124_2, hcz124_3⟩, hfz124_0, hfz124_1, hfz124_2, hfz124_3⟩ := cells4 BK155.out))
 go_ret
 exact ⟨by first | rfl | (simp [errW_none, errW_some] <;> rfl) | (simp [*, errW_none, errW_some] <;> rfl), by repeat (first | (with_reducible first | exact HB.out | apply below_alloc | apply pw_below_drewN | apply below_drew1 | refine below_set ?_ (IsS25.ge HI136.out) | refine below_set ?_ GE145.out | refine below_set ?_ GE151.out | refine below_set ?_ GE155.out) | exact HB.out)⟩
 }
 {
 rw [if_neg c113] at H
 have c113b0 : decide (x146001_2 < t176) = false := decide_eq_false c113
 clear c113
 by_cases c125 : t176 > t141
 {
 rw [if_pos c125] at H
 have c125b0 : decide (t141 < t176) = true := decide_eq_true c125
 clear c125
 obtain rfl := Option.some.inj H
 have hnb126 := NB145_151.out
 have hnc126 := NB151_145.out
 have hnb127 := NB145_155.out
 have hnc127 := NB155_145.out
 have hnb128 := NB145_136.out
 have hnc128 := NB136_145.out
 obtain ⟨⟨hcz129_0, hcz129_1, hcz129_2, hcz129_3⟩, hfz129_0, hfz129_1, hfz129_2, hfz129_3⟩ := cells4 BK145.out
 go_wp2_with (first | ((with_reducible refine gate_callee (f := 25) rfl ?_); refine goesL_ (some 144) rfl rfl Try.func25 (by kernel_rfl) rfl #[.agg #[.int .i64 x146000_2, .int .i64 x146001_2, .int .i64 x146002_2, .int .i64 x146003_2]] rfl wT ?_; (with_reducible refine (impl_CongIdle.calls x146000_2 x146001_2 x146002_2 x146003_2 t175 t176 t177 t178 t179 _ A112.out).mono ?_); rintro e w130 ⟨rfl, hb⟩; refine ⟨_, rfl, ?_⟩; have n0_ := Aside0.mk (blk_below (Bh BK145) hb); have n1_ := Aside0.mk (blk_below (Bh BK151) hb); have n2_ := Aside0.mk (blk_below (Bh BK155) hb); have n3_ := Aside0.mk (IsS25.below (by repeat (first | (with_reducible first | exact HI136.out | apply IsS25.alloc | apply IsS25.drewN | apply IsS25.drew | apply IsS25.set_1 | apply IsS25.set_2 | refine IsS25.far ?_ NB136_145.out _ | refine IsS25.far ?_ NB136_151.out _ | refine IsS25.far ?_ NB136_155.out _) | exact HI136.out)) hb); have n4_ := Aside0.mk (below_step (by repeat (first | (with_reducible first | exact HB.out | apply below_alloc | apply pw_below_drewN | apply below_drew1 | refine below_set ?_ (IsS25.ge HI136.out) | refine below_set ?_ GE145.out | refine below_set ?_ GE151.out | refine below_set ?_ GE155.out) | exact HB.out)) hb); clear BK145; clear BK151; clear BK155; clear HI136; clear HB; have BK145 := n0_; have BK151 := n1_; have BK155 := n2_; have HI136 := n3_; have HB := n4_; clear n0_ n1_ n2_ n3_ n4_; (try clear hb); (try clear hb2); (try clear hk); (try clear hi); obtain ⟨⟨hcz131_0, hcz131_1, hcz131_2, hcz131_3⟩, hfz131_0, hfz131_1, hfz131_2, hfz131_3⟩ := cells4 BK145.out) | ((with_reducible refine gate_store (t := 36) (p := 5) rfl ?_); refine store_event (t := 36) (p := 5) (v := ?vo_w132) (w1 := ((((w130.setCell ⟨gb145, 0, none⟩ (.int .i64 t175)).setCell ⟨gb145, 1, none⟩ (.int .i64 t176)).setCell ⟨gb145, 2, none⟩ (.int .i64 t177)).setCell ⟨gb145, 3, none⟩ (.int .i64 t178))) ?hg ?ho ?hn ?hr ?_; (case ho => rfl); (case hg => rfl); (case hn => rfl); (case hr => first | (go_simp; done) | (go_simp; rfl)); intro w132 hw; have n0_ : Aside0 (w132.heap[gb145]? = some (.cells #[.int .i64 t175, .int .i64 t176, .int .i64 t177, .int .i64 t178] 36 (0, 0))) := ⟨(by rw [hw]; exact (by (with_reducible repeat (first | refine blk_drewN ?_ _ | refine blk_drew ?_ | refine blk_alloc ?_ _)); refine blk_put (cs := #[.int .i64 t175, .int .i64 t176, .int .i64 t177, .int .i64 x146003_2]) ?_ 3 _ rfl; (with_reducible repeat (first | refine blk_drewN ?_ _ | refine blk_drew ?_ | refine blk_alloc ?_ _)); refine blk_put (cs := #[.int .i64 t175, .int .i64 t176, .int .i64 x146002_2, .int .i64 x146003_2]) ?_ 2 _ rfl; (with_reducible repeat (first | refine blk_drewN ?_ _ | refine blk_drew ?_ | refine blk_alloc ?_ _)); refine blk_put (cs := #[.int .i64 t175, .int .i64 x146001_2, .int .i64 x146002_2, .int .i64 x146003_2]) ?_ 1 _ rfl; (with_reducible repeat (first | refine blk_drewN ?_ _ | refine blk_drew ?_ | refine blk_alloc ?_ _)); refine blk_put (cs := #[.int .i64 x146000_2, .int .i64 x146001_2, .int .i64 x146002_2, .int .i64 x146003_2]) ?_ 0 _ rfl; (with_reducible repeat (first | refine blk_drewN ?_ _ | refine blk_drew ?_ | refine blk_alloc ?_ _)); exact BK145.out))⟩; have n1_ : Aside0 (w132.heap[gb151]? = some (.cells #[.int .i64 t146, .int .i64 t147, .int .i64 t148, .int .i64 t149] 36 (0, 0))) := ⟨(by rw [hw]; exact (by (with_reducible repeat (first | refine blk_drewN ?_ _ | refine blk_drew ?_ | refine blk_alloc ?_ _)); refine blk_far ?_ NB151_145.out _; (with_reducible repeat (first | refine blk_drewN ?_ _ | refine blk_drew ?_ | refine blk_alloc ?_ _)); refine blk_far ?_ NB151_145.out _; (with_reducible repeat (first | refine blk_drewN ?_ _ | refine blk_drew ?_ | refine blk_alloc ?_ _)); refine blk_far ?_ NB151_145.out _; (with_reducible repeat (first | refine blk_drewN ?_ _ | refine blk_drew ?_ | refine blk_alloc ?_ _)); refine blk_far ?_ NB151_145.out _; (with_reducible repeat (first | refine blk_drewN ?_ _ | refine blk_drew ?_ | refine blk_alloc ?_ _)); exact BK151.out))⟩; have n2_ : Aside0 (w132.heap[gb155]? = some (.cells #[.int .i64 x146000_2, .int .i64 x146001_2, .int .i64 x146002_2, .int .i64 x146003_2] 36 (0, 0))) := ⟨(by rw [hw]; exact (by (with_reducible repeat (first | refine blk_drewN ?_ _ | refine blk_drew ?_ | refine blk_alloc ?_ _)); refine blk_far ?_ NB155_145.out _; (with_reducible repeat (first | refine blk_drewN ?_ _ | refine blk_drew ?_ | refine blk_alloc ?_ _)); refine blk_far ?_ NB155_145.out _; (with_reducible repeat (first | refine blk_drewN ?_ _ | refine blk_drew ?_ | refine blk_alloc ?_ _)); refine blk_far ?_ NB155_145.out _; (with_reducible repeat (first | refine blk_drewN ?_ _ | refine blk_drew ?_ | refine blk_alloc ?_ _)); refine blk_far ?_ NB155_145.out _; (with_reducible repeat (first | refine blk_drewN ?_ _ | refine blk_drew ?_ | refine blk_alloc ?_ _)); exact BK155.out))⟩; have n3_ : Aside0 (IsS25 w w132 gb136 l0 t163 t164) := ⟨(by rw [hw]; exact (by repeat (first | (with_reducible first | exact HI136.out | apply IsS25.alloc | apply IsS25.drewN | apply IsS25.drew | apply IsS25.set_1 | apply IsS25.set_2 | refine IsS25.far ?_ NB136_145.out _ | refine IsS25.far ?_ NB136_151.out _ | refine IsS25.far ?_ NB136_155.out _) | exact HI136.out)))⟩; have n4_ : Aside0 (Below w.heap.size w w132) := ⟨(by rw [hw]; exact (by repeat (first | (with_reducible first | exact HB.out | apply below_alloc | apply pw_below_drewN | apply below_drew1 | refine below_set ?_ (IsS25.ge HI136.out) | refine below_set ?_ GE145.out | refine below_set ?_ GE151.out | refine below_set ?_ GE155.out) | exact HB.out)))⟩; clear hw; clear BK145; clear BK151; clear BK155; clear HI136; clear HB; have BK145 := n0_; have BK151 := n1_; have BK155 := n2_; have HI136 := n3_; have HB := n4_; clear n0_ n1_ n2_ n3_ n4_; obtain ⟨⟨hcz133_0, hcz133_1, hcz133_2, hcz133_3⟩, hfz133_0, hfz133_1, hfz133_2, hfz133_3⟩ := cells4 BK145.out; have hnb134 := NB155_151.out; have hnc134 := NB151_155.out; have hnb135 := NB155_136.out; have hnc135 := NB136_155.out; obtain ⟨⟨hcz136_0, hcz136_1, hcz136_2, hcz136_3⟩, hfz136_0, hfz136_1, hfz136_2, hfz136_3⟩ := cells4 BK155.out))
 go_ret
 exact ⟨by first | rfl | (simp [errW_none, errW_some] <;> rfl) | (simp [*, errW_none, errW_some] <;> rfl), by repeat (first | (with_reducible first | exact HB.out | apply below_alloc | apply pw_below_drewN | apply below_drew1 | refine below_set ?_ (IsS25.ge HI136.out) | refine below_set ?_ GE145.out | refine below_set ?_ GE151.out | refine below_set ?_ GE155.out) | exact HB.out)⟩
 }
 {
 rw [if_neg c125] at H
 have c125b0 : decide (t141 < t176) = false := decide_eq_false c125
 clear c125
 have H' := Aside0.mk H
 clear H
 have hnb137 := NB145_151.out
 have hnc137 := NB151_145.out
 have hnb138 := NB145_155.out
 have hnc138 := NB155_145.out
 have hnb139 := NB145_136.out
 have hnc139 := NB136_145.out
 obtain ⟨⟨hcz140_0, hcz140_1, hcz140_2, hcz140_3⟩, hfz140_0, hfz140_1, hfz140_2, hfz140_3⟩ := cells4 BK145.out
 go_wp2_with (first | ((with_reducible refine gate_callee (f := 25) rfl ?_); refine goesL_ (some 144) rfl rfl Try.func25 (by kernel_rfl) rfl #[.agg #[.int .i64 x146000_2, .int .i64 x146001_2, .int .i64 x146002_2, .int .i64 x146003_2]] rfl wT ?_; (with_reducible refine (impl_CongIdle.calls x146000_2 x146001_2 x146002_2 x146003_2 t175 t176 t177 t178 t179 _ A112.out).mono ?_); rintro e w141 ⟨rfl, hb⟩; refine ⟨_, rfl, ?_⟩; have n0_ := Aside0.mk (blk_below (Bh BK145) hb); have n1_ := Aside0.mk (blk_below (Bh BK151) hb); have n2_ := Aside0.mk (blk_below (Bh BK155) hb); have n3_ := Aside0.mk (IsS25.below (by repeat (first | (with_reducible first | exact HI136.out | apply IsS25.alloc | apply IsS25.drewN | apply IsS25.drew | apply IsS25.set_1 | apply IsS25.set_2 | refine IsS25.far ?_ NB136_145.out _ | refine IsS25.far ?_ NB136_151.out _ | refine IsS25.far ?_ NB136_155.out _) | exact HI136.out)) hb); have n4_ := Aside0.mk (below_step (by repeat (first | (with_reducible first | exact HB.out | apply below_alloc | apply pw_below_drewN | apply below_drew1 | refine below_set ?_ (IsS25.ge HI136.out) | refine below_set ?_ GE145.out | refine below_set ?_ GE151.out | refine below_set ?_ GE155.out) | exact HB.out)) hb); clear BK145; clear BK151; clear BK155; clear HI136; clear HB; have BK145 := n0_; have BK151 := n1_; have BK155 := n2_; have HI136 := n3_; have HB := n4_; clear n0_ n1_ n2_ n3_ n4_; (try clear hb); (try clear hb2); (try clear hk); (try clear hi); obtain ⟨⟨hcz142_0, hcz142_1, hcz142_2, hcz142_3⟩, hfz142_0, hfz142_1, hfz142_2, hfz142_3⟩ := cells4 BK145.out) | ((with_reducible refine gate_store (t := 36) (p := 5) rfl ?_); refine store_event (t := 36) (p := 5) (v := ?vo_w143) (w1 := ((((w141.setCell ⟨gb145, 0, none⟩ (.int .i64 t175)).setCell ⟨gb145, 1, none⟩ (.int .i64 t176)).setCell ⟨gb145, 2, none⟩ (.int .i64 t177)).setCell ⟨gb145, 3, none⟩ (.int .i64 t178))) ?hg ?ho ?hn ?hr ?_; (case ho => rfl); (case hg => rfl); (case hn => rfl); (case hr => first | (go_simp; done) | (go_simp; rfl)); intro w143 hw; have n0_ : Aside0 (w143.heap[gb145]? = some (.cells #[.int .i64 t175, .int .i64 t176, .int .i64 t177, .int .i64 t178] 36 (0, 0))) := ⟨(by rw [hw]; exact (by (with_reducible repeat (first | refine blk_drewN ?_ _ | refine blk_drew ?_ | refine blk_alloc ?_ _)); refine blk_put (cs := #[.int .i64 t175, .int .i64 t176, .int .i64 t177, .int .i64 x146003_2]) ?_ 3 _ rfl; (with_reducible repeat (first | refine blk_drewN ?_ _ | refine blk_drew ?_ | refine blk_alloc ?_ _)); refine blk_put (cs := #[.int .i64 t175, .int .i64 t176, .int .i64 x146002_2, .int .i64 x146003_2]) ?_ 2 _ rfl; (with_reducible repeat (first | refine blk_drewN ?_ _ | refine blk_drew ?_ | refine blk_alloc ?_ _)); refine blk_put (cs := #[.int .i64 t175, .int .i64 x146001_2, .int .i64 x146002_2, .int .i64 x146003_2]) ?_ 1 _ rfl; (with_reducible repeat (first | refine blk_drewN ?_ _ | refine blk_drew ?_ | refine blk_alloc ?_ _)); refine blk_put (cs := #[.int .i64 x146000_2, .int .i64 x146001_2, .int .i64 x146002_2, .int .i64 x146003_2]) ?_ 0 _ rfl; (with_reducible repeat (first | refine blk_drewN ?_ _ | refine blk_drew ?_ | refine blk_alloc ?_ _)); exact BK145.out))⟩; have n1_ : Aside0 (w143.heap[gb151]? = some (.cells #[.int .i64 t146, .int .i64 t147, .int .i64 t148, .int .i64 t149] 36 (0, 0))) := ⟨(by rw [hw]; exact (by (with_reducible repeat (first | refine blk_drewN ?_ _ | refine blk_drew ?_ | refine blk_alloc ?_ _)); refine blk_far ?_ NB151_145.out _; (with_reducible repeat (first | refine blk_drewN ?_ _ | refine blk_drew ?_ | refine blk_alloc ?_ _)); refine blk_far ?_ NB151_145.out _; (with_reducible repeat (first | refine blk_drewN ?_ _ | refine blk_drew ?_ | refine blk_alloc ?_ _)); refine blk_far ?_ NB151_145.out _; (with_reducible repeat (first | refine blk_drewN ?_ _ | refine blk_drew ?_ | refine blk_alloc ?_ _)); refine blk_far ?_ NB151_145.out _; (with_reducible repeat (first | refine blk_drewN ?_ _ | refine blk_drew ?_ | refine blk_alloc ?_ _)); exact BK151.out))⟩; have n2_ : Aside0 (w143.heap[gb155]? = some (.cells #[.int .i64 x146000_2, .int .i64 x146001_2, .int .i64 x146002_2, .int .i64 x146003_2] 36 (0, 0))) := ⟨(by rw [hw]; exact (by (with_reducible repeat (first | refine blk_drewN ?_ _ | refine blk_drew ?_ | refine blk_alloc ?_ _)); refine blk_far ?_ NB155_145.out _; (with_reducible repeat (first | refine blk_drewN ?_ _ | refine blk_drew ?_ | refine blk_alloc ?_ _)); refine blk_far ?_ NB155_145.out _; (with_reducible repeat (first | refine blk_drewN ?_ _ | refine blk_drew ?_ | refine blk_alloc ?_ _)); refine blk_far ?_ NB155_145.out _; (with_reducible repeat (first | refine blk_drewN ?_ _ | refine blk_drew ?_ | refine blk_alloc ?_ _)); refine blk_far ?_ NB155_145.out _; (with_reducible repeat (first | refine blk_drewN ?_ _ | refine blk_drew ?_ | refine blk_alloc ?_ _)); exact BK155.out))⟩; have n3_ : Aside0 (IsS25 w w143 gb136 l0 t163 t164) := ⟨(by rw [hw]; exact (by repeat (first | (with_reducible first | exact HI136.out | apply IsS25.alloc | apply IsS25.drewN | apply IsS25.drew | apply IsS25.set_1 | apply IsS25.set_2 | refine IsS25.far ?_ NB136_145.out _ | refine IsS25.far ?_ NB136_151.out _ | refine IsS25.far ?_ NB136_155.out _) | exact HI136.out)))⟩; have n4_ : Aside0 (Below w.heap.size w w143) := ⟨(by rw [hw]; exact (by repeat (first | (with_reducible first | exact HB.out | apply below_alloc | apply pw_below_drewN | apply below_drew1 | refine below_set ?_ (IsS25.ge HI136.out) | refine below_set ?_ GE145.out | refine below_set ?_ GE151.out | refine below_set ?_ GE155.out) | exact HB.out)))⟩; clear hw; clear BK145; clear BK151; clear BK155; clear HI136; clear HB; have BK145 := n0_; have BK151 := n1_; have BK155 := n2_; have HI136 := n3_; have HB := n4_; clear n0_ n1_ n2_ n3_ n4_; obtain ⟨⟨hcz144_0, hcz144_1, hcz144_2, hcz144_3⟩, hfz144_0, hfz144_1, hfz144_2, hfz144_3⟩ := cells4 BK145.out; have hnb145 := NB155_151.out; have hnc145 := NB151_155.out; have hnb146 := NB155_136.out; have hnc146 := NB136_155.out; obtain ⟨⟨hcz147_0, hcz147_1, hcz147_2, hcz147_3⟩, hfz147_0, hfz147_1, hfz147_2, hfz147_3⟩ := cells4 BK155.out))
 go_meet
 case rel => exact ⟨_, (t179), (0), (t176), (t175), (t176), (t177), (t178), (by first | rfl | (simp; done) | (simp [*]; done)), (by first | rfl | (simp; done) | (simp [*]; done)), (by first | rfl | (simp; done) | (simp [*]; done)), H', ⟨by have := HJ6.out; have := HK2.out; have := HJ37.out; first | omega | exact Nat.le_refl _⟩, ⟨Bh BK145⟩, ⟨Bh BK151⟩, ⟨Bh BK155⟩, ⟨by repeat (first | (with_reducible first | exact HI136.out | apply IsS25.alloc | apply IsS25.drewN | apply IsS25.drew | apply IsS25.set_1 | apply IsS25.set_2 | refine IsS25.far ?_ NB136_145.out _ | refine IsS25.far ?_ NB136_151.out _ | refine IsS25.far ?_ NB136_155.out _) | exact HI136.out)⟩, ⟨by repeat (first | (with_reducible first | exact HB.out | apply below_alloc | apply pw_below_drewN | apply below_drew1 | refine below_set ?_ (IsS25.ge HI136.out) | refine below_set ?_ GE145.out | refine below_set ?_ GE151.out | refine below_set ?_ GE155.out) | exact HB.out)⟩⟩
 }
 }
 }
 {
 rw [if_neg c111] at H
 have c111b0 : (t162 == 2) = false := beq_eq_false_iff_ne.mpr c111
 have c111b1 : (t162 != 2) = true := bne_iff_ne.mpr c111
 replace H := Option.bind_eq_some_iff.mp H
 obtain ⟨⟨t180, t181, t182, t183, t184⟩, A1480, H⟩ := H
 replace H : (if t181 < x146001_2 then (laws_FnWindow.j3 kj37 (wrap64 (1 + t137)) t184 t141 (wrap64 (x10_2 + (wrap64 (1 + t159)))) x11_2 x12_2 (wrap64 (1 + t159)) true l0 t163 t164 t180 t181 t182 t183 x146000_2 x146001_2 x146002_2 x146003_2) else (laws_FnWindow.j3 kj37 (wrap64 (1 + t137)) t184 t141 (wrap64 (x10_2 + (wrap64 (1 + t159)))) x11_2 x12_2 (wrap64 (1 + t159)) (decide (t181 > (wrap64 (x146001_2 + (wrap64 (1 + t137)))))) l0 t163 t164 t180 t181 t182 t183 x146000_2 x146001_2 x146002_2 x146003_2)) = some r := H
 have A148 := Aside0.mk A1480
 clear A1480
 have HC149 := Aside0.mk H
 clear H
 have hnb150 := NB145_151.out
 have hnc150 := NB151_145.out
 have hnb151 := NB145_155.out
 have hnc151 := NB155_145.out
 have hnb152 := NB145_136.out
 have hnc152 := NB136_145.out
 obtain ⟨⟨hcz153_0, hcz153_1, hcz153_2, hcz153_3⟩, hfz153_0, hfz153_1, hfz153_2, hfz153_3⟩ := cells4 BK145.out
 go_upto_region 24 with (first | ((with_reducible refine gate_callee (f := 26) rfl ?_); refine goesL_ (some 68) rfl rfl Try.func26 (by kernel_rfl) rfl #[.agg #[.int .i64 x146000_2, .int .i64 x146001_2, .int .i64 x146002_2, .int .i64 x146003_2], .int .i64 (wrap64 (1 + t159))] rfl wT ?_; (with_reducible refine (impl_CongAck.calls kj37 x146000_2 x146001_2 x146002_2 x146003_2 (wrap64 (1 + t159)) t180 t181 t182 t183 t184 _ A148.out).mono ?_); rintro e w154 ⟨rfl, hb⟩; refine ⟨_, rfl, ?_⟩; have n0_ := Aside0.mk (blk_below (Bh BK145) hb); have n1_ := Aside0.mk (blk_below (Bh BK151) hb); have n2_ := Aside0.mk (blk_below (Bh BK155) hb); have n3_ := Aside0.mk (IsS25.below (by repeat (first | (with_reducible first | exact HI136.out | apply IsS25.alloc | apply IsS25.drewN | apply IsS25.drew | apply IsS25.set_1 | apply IsS25.set_2 | refine IsS25.far ?_ NB136_145.out _ | refine IsS25.far ?_ NB136_151.out _ | refine IsS25.far ?_ NB136_155.out _) | exact HI136.out)) hb); have n4_ := Aside0.mk (below_step (by repeat (first | (with_reducible first | exact HB.out | apply below_alloc | apply pw_below_drewN | apply below_drew1 | refine below_set ?_ (IsS25.ge HI136.out) | refine below_set ?_ GE145.out | refine below_set ?_ GE151.out | refine below_set ?_ GE155.out) | exact HB.out)) hb); clear BK145; clear BK151; clear BK155; clear HI136; clear HB; have BK145 := n0_; have BK151 := n1_; have BK155 := n2_; have HI136 := n3_; have HB := n4_; clear n0_ n1_ n2_ n3_ n4_; (try clear hb); (try clear hb2); (try clear hk); (try clear hi); obtain ⟨⟨hcz155_0, hcz155_1, hcz155_2, hcz155_3⟩, hfz155_0, hfz155_1, hfz155_2, hfz155_3⟩ := cells4 BK145.out) | ((with_reducible refine gate_store (t := 36) (p := 5) rfl ?_); refine store_event (t := 36) (p := 5) (v := ?vo_w156) (w1 := ((((w154.setCell ⟨gb145, 0, none⟩ (.int .i64 t180)).setCell ⟨gb145, 1, none⟩ (.int .i64 t181)).setCell ⟨gb145, 2, none⟩ (.int .i64 t182)).setCell ⟨gb145, 3, none⟩ (.int .i64 t183))) ?hg ?ho ?hn ?hr ?_; (case ho => rfl); (case hg => rfl); (case hn => rfl); (case hr => first | (go_simp; done) | (go_simp; rfl)); intro w156 hw; have n0_ : Aside0 (w156.heap[gb145]? = some (.cells #[.int .i64 t180, .int .i64 t181, .int .i64 t182, .int .i64 t183] 36 (0, 0))) := ⟨(by rw [hw]; exact (by (with_reducible repeat (first | refine blk_drewN ?_ _ | refine blk_drew ?_ | refine blk_alloc ?_ _)); refine blk_put (cs := #[.int .i64 t180, .int .i64 t181, .int .i64 t182, .int .i64 x146003_2]) ?_ 3 _ rfl; (with_reducible repeat (first | refine blk_drewN ?_ _ | refine blk_drew ?_ | refine blk_alloc ?_ _)); refine blk_put (cs := #[.int .i64 t180, .int .i64 t181, .int .i64 x146002_2, .int .i64 x146003_2]) ?_ 2 _ rfl; (with_reducible repeat (first | refine blk_drewN ?_ _ | refine blk_drew ?_ | refine blk_alloc ?_ _)); refine blk_put (cs := #[.int .i64 t180, .int .i64 x146001_2, .int .i64 x146002_2, .int .i64 x146003_2]) ?_ 1 _ rfl; (with_reducible repeat (first | refine blk_drewN ?_ _ | refine blk_drew ?_ | refine blk_alloc ?_ _)); refine blk_put (cs := #[.int .i64 x146000_2, .int .i64 x146001_2, .int .i64 x146002_2, .int .i64 x146003_2]) ?_ 0 _ rfl; (with_reducible repeat (first | refine blk_drewN ?_ _ | refine blk_drew ?_ | refine blk_alloc ?_ _)); exact BK145.out))⟩; have n1_ : Aside0 (w156.heap[gb151]? = some (.cells #[.int .i64 t146, .int .i64 t147, .int .i64 t148, .int .i64 t149] 36 (0, 0))) := ⟨(by rw [hw]; exact (by (with_reducible repeat (first | refine blk_drewN ?_ _ | refine blk_drew ?_ | refine blk_alloc ?_ _)); refine blk_far ?_ NB151_145.out _; (with_reducible repeat (first | refine blk_drewN ?_ _ | refine blk_drew ?_ | refine blk_alloc ?_ _)); refine blk_far ?_ NB151_145.out _; (with_reducible repeat (first | refine blk_drewN ?_ _ | refine blk_drew ?_ | refine blk_alloc ?_ _)); refine blk_far ?_ NB151_145.out _; (with_reducible repeat (first | refine blk_drewN ?_ _ | refine blk_drew ?_ | refine blk_alloc ?_ _)); refine blk_far ?_ NB151_145.out _; (with_reducible repeat (first | refine blk_drewN ?_ _ | refine blk_drew ?_ | refine blk_alloc ?_ _)); exact BK151.out))⟩; have n2_ : Aside0 (w156.heap[gb155]? = some (.cells #[.int .i64 x146000_2, .int .i64 x146001_2, .int .i64 x146002_2, .int .i64 x146003_2] 36 (0, 0))) := ⟨(by rw [hw]; exact (by (with_reducible repeat (first | refine blk_drewN ?_ _ | refine blk_drew ?_ | refine blk_alloc ?_ _)); refine blk_far ?_ NB155_145.out _; (with_reducible repeat (first | refine blk_drewN ?_ _ | refine blk_drew ?_ | refine blk_alloc ?_ _)); refine blk_far ?_ NB155_145.out _; (with_reducible repeat (first | refine blk_drewN ?_ _ | refine blk_drew ?_ | refine blk_alloc ?_ _)); refine blk_far ?_ NB155_145.out _; (with_reducible repeat (first | refine blk_drewN ?_ _ | refine blk_drew ?_ | refine blk_alloc ?_ _)); refine blk_far ?_ NB155_145.out _; (with_reducible repeat (first | refine blk_drewN ?_ _ | refine blk_drew ?_ | refine blk_alloc ?_ _)); exact BK155.out))⟩; have n3_ : Aside0 (IsS25 w w156 gb136 l0 t163 t164) := ⟨(by rw [hw]; exact (by repeat (first | (with_reducible first | exact HI136.out | apply IsS25.alloc | apply IsS25.drewN | apply IsS25.drew | apply IsS25.set_1 | apply IsS25.set_2 | refine IsS25.far ?_ NB136_145.out _ | refine IsS25.far ?_ NB136_151.out _ | refine IsS25.far ?_ NB136_155.out _) | exact HI136.out)))⟩; have n4_ : Aside0 (Below w.heap.size w w156) := ⟨(by rw [hw]; exact (by repeat (first | (with_reducible first | exact HB.out | apply below_alloc | apply pw_below_drewN | apply below_drew1 | refine below_set ?_ (IsS25.ge HI136.out) | refine below_set ?_ GE145.out | refine below_set ?_ GE151.out | refine below_set ?_ GE155.out) | exact HB.out)))⟩; clear hw; clear BK145; clear BK151; clear BK155; clear HI136; clear HB; have BK145 := n0_; have BK151 := n1_; have BK155 := n2_; have HI136 := n3_; have HB := n4_; clear n0_ n1_ n2_ n3_ n4_))
 (try simp only [Act.put, List.setIfInBounds_toArray, List.set_cons_zero, List.set_cons_succ])
 go_cut [87] (fun v87 wc => ∃ (kq : Nat) (x87_148 : Bool), v87 = .bool x87_148 ∧ Aside0 (laws_FnWindow.j3 kq (wrap64 (1 + t137)) t184 t141 (wrap64 (x10_2 + (wrap64 (1 + t159)))) x11_2 x12_2 (wrap64 (1 + t159)) x87_148 l0 t163 t164 t180 t181 t182 t183 x146000_2 x146001_2 x146002_2 x146003_2 = some r) ∧ Aside0 (kq ≤ kj37) ∧ Aside0 (wc.heap[gb145]? = some (.cells #[.int .i64 t180, .int .i64 t181, .int .i64 t182, .int .i64 t183] 36 (0, 0))) ∧ Aside0 (wc.heap[gb151]? = some (.cells #[.int .i64 t146, .int .i64 t147, .int .i64 t148, .int .i64 t149] 36 (0, 0))) ∧ Aside0 (wc.heap[gb155]? = some (.cells #[.int .i64 x146000_2, .int .i64 x146001_2, .int .i64 x146002_2, .int .i64 x146003_2] 36 (0, 0))) ∧ Aside0 (IsS25 w wc gb136 l0 t163 t164) ∧ Aside0 (Below w.heap.size w wc))
 case first => as_aux_lemma => (
 have H := HC149.out
 clear HC149
 by_cases c157 : t181 < x146001_2
 {
 rw [if_pos c157] at H
 have c157b0 : decide (t181 < x146001_2) = true := decide_eq_true c157
 clear c157
 (first | rw [c157b0] | (simp only [i64_w, i32_w]; rw [c157b0]) | skip)
 have H' := Aside0.mk H
 clear H
 have hnb158 := NB145_151.out
 have hnc158 := NB151_145.out
 have hnb159 := NB145_155.out
 have hnc159 := NB155_145.out
 have hnb160 := NB145_136.out
 have hnc160 := NB136_145.out
 obtain ⟨⟨hcz161_0, hcz161_1, hcz161_2, hcz161_3⟩, hfz161_0, hfz161_1, hfz161_2, hfz161_3⟩ := cells4 BK145.out
 have hnb162 := NB155_151.out
 have hnc162 := NB151_155.out
 have hnb163 := NB155_136.out
 have hnc163 := NB136_155.out
 obtain ⟨⟨hcz164_0, hcz164_1, hcz164_2, hcz164_3⟩, hfz164_0, hfz164_1, hfz164_2, hfz164_3⟩ := cells4 BK155.out
 go_wp2
 go_meet
 case rel => exact ⟨_, (true), (by first | rfl | (simp; done) | (simp [*]; done)), H', ⟨by have := HJ6.out; have := HK2.out; have := HJ37.out; first | omega | exact Nat.le_refl _⟩, ⟨Bh BK145⟩, ⟨Bh BK151⟩, ⟨Bh BK155⟩, ⟨by repeat (first | (with_reducible first | exact HI136.out | apply IsS25.alloc | apply IsS25.drewN | apply IsS25.drew | apply IsS25.set_1 | apply IsS25.set_2 | refine IsS25.far ?_ NB136_145.out _ | refine IsS25.far ?_ NB136_151.out _ | refine IsS25.far ?_ NB136_155.out _) | exact HI136.out)⟩, ⟨by repeat (first | (with_reducible first | exact HB.out | apply below_alloc | apply pw_below_drewN | apply below_drew1 | refine below_set ?_ (IsS25.ge HI136.out) | refine below_set ?_ GE145.out | refine below_set ?_ GE151.out | refine below_set ?_ GE155.out) | exact HB.out)⟩⟩
 }
 {
 rw [if_neg c157] at H
 have c157b0 : decide (t181 < x146001_2) = false := decide_eq_false c157
 clear c157
 (first | rw [c157b0] | (simp only [i64_w, i32_w]; rw [c157b0]) | skip)
 have H' := Aside0.mk H
 clear H
 have hnb165 := NB145_151.out
 have hnc165 := NB151_145.out
 have hnb166 := NB145_155.out
 have hnc166 := NB155_145.out
 have hnb167 := NB145_136.out
 have hnc167 := NB136_145.out
 obtain ⟨⟨hcz168_0, hcz168_1, hcz168_2, hcz168_3⟩, hfz168_0, hfz168_1, hfz168_2, hfz168_3⟩ := cells4 BK145.out
 have hnb169 := NB155_151.out
 have hnc169 := NB151_155.out
 have hnb170 := NB155_136.out
 have hnc170 := NB136_155.out
 obtain ⟨⟨hcz171_0, hcz171_1, hcz171_2, hcz171_3⟩, hfz171_0, hfz171_1, hfz171_2, hfz171_3⟩ := cells4 BK155.out
 go_wp2
 go_meet
 case rel => exact ⟨_, (decide (t181 > (wrap64 (x146001_2 + (wrap64 (1 + t137)))))), (by first | rfl | (simp; done) | (simp [*]; done)), H', ⟨by have := HJ6.out; have := HK2.out; have := HJ37.out; first | omega | exact Nat.le_refl _⟩, ⟨Bh BK145⟩, ⟨Bh BK151⟩, ⟨Bh BK155⟩, ⟨by repeat (first | (with_reducible first | exact HI136.out | apply IsS25.alloc | apply IsS25.drewN | apply IsS25.drew | apply IsS25.set_1 | apply IsS25.set_2 | refine IsS25.far ?_ NB136_145.out _ | refine IsS25.far ?_ NB136_151.out _ | refine IsS25.far ?_ NB136_155.out _) | exact HI136.out)⟩, ⟨by repeat (first | (with_reducible first | exact HB.out | apply below_alloc | apply pw_below_drewN | apply below_drew1 | refine below_set ?_ (IsS25.ge HI136.out) | refine below_set ?_ GE145.out | refine below_set ?_ GE151.out | refine below_set ?_ GE155.out) | exact HB.out)⟩⟩
 }
 )
 case rest => as_aux_lemma => (
 clear HC149
 try clear c1
 try clear c2
 try clear c2b0
 try clear c2b1
 try clear p2
 try clear c3
 try clear c4
 try clear c5
 try clear c6
 try clear p6
 try clear c7
 try clear c8
 try clear c9
 try clear c10
 try clear c11
 try clear c12
 try clear c13
 try clear c14
 try clear c15
 try clear c16
 try clear c17
 try clear c20
 try clear c21
 try clear c22
 try clear c23
 try clear c24
 try clear c24b0
 try clear c24b1
 try clear c25
 try clear c26
 try clear c28
 try clear c30
 try clear c32
 try clear c33
 try clear c36
 try clear c36b0
 try clear c39
 try clear c40
 try clear c43
 try clear c44
 try clear c45
 try clear c49
 try clear c49b0
 try clear c55
 try clear c55b0
 try clear c55b1
 try clear c57
 try clear c57b0
 try clear c57b1
 try clear c58
 try clear c58b0
 try clear c58b1
 try clear c59
 try clear c60
 try clear c61
 try clear p64
 try clear c67
 try clear c68
 try clear c69
 try clear c75
 try clear c76
 try clear c77
 try clear c83
 try clear c83b0
 try clear c83b1
 try clear c85
 try clear c85b0
 try clear c85b1
 try clear c86
 try clear c86b0
 try clear c86b1
 try clear c87
 try clear c88
 try clear c89
 try clear c95
 try clear c96
 try clear c97
 try clear c103
 try clear c104
 try clear c105
 try clear c111
 try clear c111b0
 try clear c111b1
 try clear c113
 try clear c113b0
 try clear c114
 try clear c115
 try clear c116
 try clear c122
 try clear c123
 try clear c125
 try clear c125b0
 try clear c126
 try clear c127
 try clear c128
 try clear c134
 try clear c135
 try clear c137
 try clear c138
 try clear c139
 try clear c145
 try clear c146
 try clear c150
 try clear c151
 try clear c152
 try clear c157
 try clear c157b0
 try clear c158
 try clear c159
 try clear c160
 try clear c162
 try clear c163
 try clear c165
 try clear c166
 try clear c167
 try clear c169
 try clear c170
 try clear hcz100_0 hcz100_1 hcz100_2 hcz100_3 hfz100_0 hfz100_1 hfz100_2 hfz100_3
 try clear hcz102_0 hcz102_1 hcz102_2 hcz102_3 hfz102_0 hfz102_1 hfz102_2 hfz102_3
 try clear hcz106_0 hcz106_1 hcz106_2 hcz106_3 hfz106_0 hfz106_1 hfz106_2 hfz106_3
 try clear hcz108_0 hcz108_1 hcz108_2 hcz108_3 hfz108_0 hfz108_1 hfz108_2 hfz108_3
 try clear hcz10_0 hcz10_1 hcz10_2 hfz10_0 hfz10_1 hfz10_2
 try clear hcz110_0 hcz110_1 hcz110_2 hcz110_3 hfz110_0 hfz110_1 hfz110_2 hfz110_3
 try clear hcz117_0 hcz117_1 hcz117_2 hcz117_3 hfz117_0 hfz117_1 hfz117_2 hfz117_3
 try clear hcz119_0 hcz119_1 hcz119_2 hcz119_3 hfz119_0 hfz119_1 hfz119_2 hfz119_3
 try clear hcz121_0 hcz121_1 hcz121_2 hcz121_3 hfz121_0 hfz121_1 hfz121_2 hfz121_3
 try clear hcz124_0 hcz124_1 hcz124_2 hcz124_3 hfz124_0 hfz124_1 hfz124_2 hfz124_3
 try clear hcz129_0 hcz129_1 hcz129_2 hcz129_3 hfz129_0 hfz129_1 hfz129_2 hfz129_3
 try clear hcz131_0 hcz131_1 hcz131_2 hcz131_3 hfz131_0 hfz131_1 hfz131_2 hfz131_3
 try clear hcz133_0 hcz133_1 hcz133_2 hcz133_3 hfz133_0 hfz133_1 hfz133_2 hfz133_3
 try clear hcz136_0 hcz136_1 hcz136_2 hcz136_3 hfz136_0 hfz136_1 hfz136_2 hfz136_3
 try clear hcz140_0 hcz140_1 hcz140_2 hcz140_3 hfz140_0 hfz140_1 hfz140_2 hfz140_3
 try clear hcz142_0 hcz142_1 hcz142_2 hcz142_3 hfz142_0 hfz142_1 hfz142_2 hfz142_3
 try clear hcz144_0 hcz144_1 hcz144_2 hcz144_3 hfz144_0 hfz144_1 hfz144_2 hfz144_3
 try clear hcz147_0 hcz147_1 hcz147_2 hcz147_3 hfz147_0 hfz147_1 hfz147_2 hfz147_3
 try clear hcz153_0 hcz153_1 hcz153_2 hcz153_3 hfz153_0 hfz153_1 hfz153_2 hfz153_3
 try clear hcz155_0 hcz155_1 hcz155_2 hcz155_3 hfz155_0 hfz155_1 hfz155_2 hfz155_3
 try clear hcz161_0 hcz161_1 hcz161_2 hcz161_3 hfz161_0 hfz161_1 hfz161_2 hfz161_3
 try clear hcz164_0 hcz164_1 hcz164_2 hcz164_3 hfz164_0 hfz164_1 hfz164_2 hfz164_3
 try clear hcz168_0 hcz168_1 hcz168_2 hcz168_3 hfz168_0 hfz168_1 hfz168_2 hfz168_3
 try clear hcz16_0 hcz16_1 hcz16_2 hcz16_3 hfz16_0 hfz16_1 hfz16_2 hfz16_3
 try clear hcz171_0 hcz171_1 hcz171_2 hcz171_3 hfz171_0 hfz171_1 hfz171_2 hfz171_3
 try clear hcz22_0 hcz22_1 hcz22_2 hcz22_3 hfz22_0 hfz22_1 hfz22_2 hfz22_3
 try clear hcz27_0 hcz27_1 hcz27_2 hcz27_3 hfz27_0 hfz27_1 hfz27_2 hfz27_3
 try clear hcz29_0 hcz29_1 hcz29_2 hcz29_3 hfz29_0 hfz29_1 hfz29_2 hfz29_3
 try clear hcz34_0 hcz34_1 hcz34_2 hcz34_3 hfz34_0 hfz34_1 hfz34_2 hfz34_3
 try clear hcz41_0 hcz41_1 hcz41_2 hcz41_3 hfz41_0 hfz41_1 hfz41_2 hfz41_3
 try clear hcz46_0 hcz46_1 hcz46_2 hcz46_3 hfz46_0 hfz46_1 hfz46_2 hfz46_3
 try clear hcz62_0 hcz62_1 hcz62_2 hcz62_3 hfz62_0 hfz62_1 hfz62_2 hfz62_3
 try clear hcz64_0 hcz64_1 hcz64_2 hcz64_3 hfz64_0 hfz64_1 hfz64_2 hfz64_3
 try clear hcz66_0 hcz66_1 hcz66_2 hcz66_3 hfz66_0 hfz66_1 hfz66_2 hfz66_3
 try clear hcz70_0 hcz70_1 hcz70_2 hcz70_3 hfz70_0 hfz70_1 hfz70_2 hfz70_3
 try clear hcz72_0 hcz72_1 hcz72_2 hcz72_3 hfz72_0 hfz72_1 hfz72_2 hfz72_3
 try clear hcz74_0 hcz74_1 hcz74_2 hcz74_3 hfz74_0 hfz74_1 hfz74_2 hfz74_3
 try clear hcz78_0 hcz78_1 hcz78_2 hcz78_3 hfz78_0 hfz78_1 hfz78_2 hfz78_3
 try clear hcz80_0 hcz80_1 hcz80_2 hcz80_3 hfz80_0 hfz80_1 hfz80_2 hfz80_3
 try clear hcz82_0 hcz82_1 hcz82_2 hcz82_3 hfz82_0 hfz82_1 hfz82_2 hfz82_3
 try clear hcz90_0 hcz90_1 hcz90_2 hcz90_3 hfz90_0 hfz90_1 hfz90_2 hfz90_3
 try clear hcz92_0 hcz92_1 hcz92_2 hcz92_3 hfz92_0 hfz92_1 hfz92_2 hfz92_3
 try clear hcz94_0 hcz94_1 hcz94_2 hcz94_3 hfz94_0 hfz94_1 hfz94_2 hfz94_3
 try clear hcz98_0 hcz98_1 hcz98_2 hcz98_3 hfz98_0 hfz98_1 hfz98_2 hfz98_3
 try clear p2
 try clear p6
 obtain ⟨kq, x87_148, rfl, HA, HJ148, BK145, BK151, BK155, HI136, HB⟩ := hcut
 cases kq with
 | zero => exact absurd HA.out (by simp [laws_FnWindow.j3])
 | succ kj148 => {
 have H := HA.out
 clear HA
 simp only [laws_FnWindow.j3] at H
 by_cases c172 : x87_148 = true
 {
 subst c172
 have H1 : (some false) = some r := by rw [if_pos rfl] at H; exact H
 clear H
 have H := H1
 clear H1
 obtain rfl := Option.some.inj H
 go_wp2
 go_ret
 exact ⟨by first | rfl | (simp [errW_none, errW_some] <;> rfl) | (simp [*, errW_none, errW_some] <;> rfl), by repeat (first | (with_reducible first | exact HB.out | apply below_alloc | apply pw_below_drewN | apply below_drew1 | refine below_set ?_ (IsS25.ge HI136.out) | refine below_set ?_ GE145.out | refine below_set ?_ GE151.out | refine below_set ?_ GE155.out) | exact HB.out)⟩
 }
 {
 replace c172 := Bool.eq_false_iff.mpr c172
 subst c172
 have H1 : (if x146001_2 < x146002_2 then (if t181 > (wrap64 (x146001_2 + (wrap64 (1 + t159)))) then (some false) else (laws_FnWindow.j4 kj148 (wrap64 (1 + t137)) t184 t141 (wrap64 (x10_2 + (wrap64 (1 + t159)))) x11_2 x12_2 l0 t163 t164 t180 t181 t182 t183)) else (laws_FnWindow.j4 kj148 (wrap64 (1 + t137)) t184 t141 (wrap64 (x10_2 + (wrap64 (1 + t159)))) x11_2 x12_2 l0 t163 t164 t180 t181 t182 t183)) = some r := by rw [if_neg (show ¬ (false = true) by decide)] at H; exact H
 clear H
 have H := H1
 clear H1
 by_cases c173 : x146001_2 < x146002_2
 {
 rw [if_pos c173] at H
 have c173b0 : decide (x146001_2 < x146002_2) = true := decide_eq_true c173
 clear c173
 by_cases c174 : t181 > (wrap64 (x146001_2 + (wrap64 (1 + t159))))
 {
 rw [if_pos c174] at H
 have c174b0 : decide ((wrap64 (x146001_2 + (wrap64 (1 + t159)))) < t181) = true := decide_eq_true c174
 clear c174
 obtain rfl := Option.some.inj H
 have hnb175 := NB155_145.out
 have hnc175 := NB145_155.out
 have hnb176 := NB155_151.out
 have hnc176 := NB151_155.out
 have hnb177 := NB155_136.out
 have hnc177 := NB136_155.out
 obtain ⟨⟨hcz178_0, hcz178_1, hcz178_2, hcz178_3⟩, hfz178_0, hfz178_1, hfz178_2, hfz178_3⟩ := cells4 BK155.out
 have hnb179 := NB145_151.out
 have hnc179 := NB151_145.out
 have hnb180 := NB145_136.out
 have hnc180 := NB136_145.out
 obtain ⟨⟨hcz181_0, hcz181_1, hcz181_2, hcz181_3⟩, hfz181_0, hfz181_1, hfz181_2, hfz181_3⟩ := cells4 BK145.out
 go_wp2
 go_ret
 exact ⟨by first | rfl | (simp [errW_none, errW_some] <;> rfl) | (simp [*, errW_none, errW_some] <;> rfl), by repeat (first | (with_reducible first | exact HB.out | apply below_alloc | apply pw_below_drewN | apply below_drew1 | refine below_set ?_ (IsS25.ge HI136.out) | refine below_set ?_ GE145.out | refine below_set ?_ GE151.out | refine below_set ?_ GE155.out) | exact HB.out)⟩
 }
 {
 rw [if_neg c174] at H
 have c174b0 : decide ((wrap64 (x146001_2 + (wrap64 (1 + t159)))) < t181) = false := decide_eq_false c174
 clear c174
 have H' := Aside0.mk H
 clear H
 have hnb182 := NB155_145.out
 have hnc182 := NB145_155.out
 have hnb183 := NB155_151.out
 have hnc183 := NB151_155.out
 have hnb184 := NB155_136.out
 have hnc184 := NB136_155.out
 obtain ⟨⟨hcz185_0, hcz185_1, hcz185_2, hcz185_3⟩, hfz185_0, hfz185_1, hfz185_2, hfz185_3⟩ := cells4 BK155.out
 have hnb186 := NB145_151.out
 have hnc186 := NB151_145.out
 have hnb187 := NB145_136.out
 have hnc187 := NB136_145.out
 obtain ⟨⟨hcz188_0, hcz188_1, hcz188_2, hcz188_3⟩, hfz188_0, hfz188_1, hfz188_2, hfz188_3⟩ := cells4 BK145.out
 go_wp2
 go_meet
 case rel => exact ⟨_, (t184), ((wrap64 (x10_2 + (wrap64 (1 + t159))))), (x11_2), (t180), (t181), (t182), (t183), (by first | rfl | (simp; done) | (simp [*]; done)), (by first | rfl | (simp; done) | (simp [*]; done)), (by first | rfl | (simp; done) | (simp [*]; done)), H', ⟨by have := HJ6.out; have := HK2.out; have := HJ37.out; have := HJ148.out; first | omega | exact Nat.le_refl _⟩, ⟨Bh BK145⟩, ⟨Bh BK151⟩, ⟨Bh BK155⟩, ⟨by repeat (first | (with_reducible first | exact HI136.out | apply IsS25.alloc | apply IsS25.drewN | apply IsS25.drew | apply IsS25.set_1 | apply IsS25.set_2 | refine IsS25.far ?_ NB136_145.out _ | refine IsS25.far ?_ NB136_151.out _ | refine IsS25.far ?_ NB136_155.out _) | exact HI136.out)⟩, ⟨by repeat (first | (with_reducible first | exact HB.out | apply below_alloc | apply pw_below_drewN | apply below_drew1 | refine below_set ?_ (IsS25.ge HI136.out) | refine below_set ?_ GE145.out | refine below_set ?_ GE151.out | refine below_set ?_ GE155.out) | exact HB.out)⟩⟩
 }
 }
 {
 rw [if_neg c173] at H
 have c173b0 : decide (x146001_2 < x146002_2) = false := decide_eq_false c173
 clear c173
 have H' := Aside0.mk H
 clear H
 have hnb189 := NB155_145.out
 have hnc189 := NB145_155.out
 have hnb190 := NB155_151.out
 have hnc190 := NB151_155.out
 have hnb191 := NB155_136.out
 have hnc191 := NB136_155.out
 obtain ⟨⟨hcz192_0, hcz192_1, hcz192_2, hcz192_3⟩, hfz192_0, hfz192_1, hfz192_2, hfz192_3⟩ := cells4 BK155.out
 go_wp2
 go_meet
 case rel => exact ⟨_, (t184), ((wrap64 (x10_2 + (wrap64 (1 + t159))))), (x11_2), (t180), (t181), (t182), (t183), (by first | rfl | (simp; done) | (simp [*]; done)), (by first | rfl | (simp; done) | (simp [*]; done)), (by first | rfl | (simp; done) | (simp [*]; done)), H', ⟨by have := HJ6.out; have := HK2.out; have := HJ37.out; have := HJ148.out; first | omega | exact Nat.le_refl _⟩, ⟨Bh BK145⟩, ⟨Bh BK151⟩, ⟨Bh BK155⟩, ⟨by repeat (first | (with_reducible first | exact HI136.out | apply IsS25.alloc | apply IsS25.drewN | apply IsS25.drew | apply IsS25.set_1 | apply IsS25.set_2 | refine IsS25.far ?_ NB136_145.out _ | refine IsS25.far ?_ NB136_151.out _ | refine IsS25.far ?_ NB136_155.out _) | exact HI136.out)⟩, ⟨by repeat (first | (with_reducible first | exact HB.out | apply below_alloc | apply pw_below_drewN | apply below_drew1 | refine below_set ?_ (IsS25.ge HI136.out) | refine below_set ?_ GE145.out | refine below_set ?_ GE151.out | refine below_set ?_ GE155.out) | exact HB.out)⟩⟩
 }
 }
 }
 )
 }
 }
 }
 )
 case rest => as_aux_lemma => (
 clear HC52
 try clear c1
 try clear c2
 try clear c2b0
 try clear c2b1
 try clear p2
 try clear c3
 try clear c4
 try clear c5
 try clear c6
 try clear p6
 try clear c7
 try clear c8
 try clear c9
 try clear c10
 try clear c11
 try clear c12
 try clear c13
 try clear c14
 try clear c15
 try clear c16
 try clear c17
 try clear c18
 try clear c19
 try clear c20
 try clear c21
 try clear c22
 try clear c23
 try clear c24
 try clear c24b0
 try clear c24b1
 try clear c25
 try clear c26
 try clear c28
 try clear c30
 try clear c32
 try clear c33
 try clear c36
 try clear c36b0
 try clear c39
 try clear c40
 try clear c43
 try clear c44
 try clear c45
 try clear c49
 try clear c49b0
 try clear c55
 try clear c55b0
 try clear c55b1
 try clear c57
 try clear c57b0
 try clear c57b1
 try clear c58
 try clear c58b0
 try clear c58b1
 try clear c59
 try clear c60
 try clear c61
 try clear p64
 try clear c67
 try clear c68
 try clear c69
 try clear c75
 try clear c76
 try clear c77
 try clear c83
 try clear c83b0
 try clear c83b1
 try clear c85
 try clear c85b0
 try clear c85b1
 try clear c86
 try clear c86b0
 try clear c86b1
 try clear c87
 try clear c88
 try clear c89
 try clear c95
 try clear c96
 try clear c97
 try clear c103
 try clear c104
 try clear c105
 try clear c111
 try clear c111b0
 try clear c111b1
 try clear c113
 try clear c113b0
 try clear c114
 try clear c115
 try clear c116
 try clear c122
 try clear c123
 try clear c125
 try clear c125b0
 try clear c126
 try clear c127
 try clear c128
 try clear c134
 try clear c135
 try clear c137
 try clear c138
 try clear c139
 try clear c145
 try clear c146
 try clear c150
 try clear c151
 try clear c152
 try clear c157
 try clear c157b0
 try clear c158
 try clear c159
 try clear c160
 try clear c162
 try clear c163
 try clear c165
 try clear c166
 try clear c167
 try clear c169
 try clear c170
 try clear c172
 try clear c173
 try clear c173b0
 try clear c174
 try clear c174b0
 try clear c175
 try clear c176
 try clear c177
 try clear c179
 try clear c180
 try clear c182
 try clear c183
 try clear c184
 try clear c186
 try clear c187
 try clear c189
 try clear c190
 try clear c191
 try clear hcz100_0 hcz100_1 hcz100_2 hcz100_3 hfz100_0 hfz100_1 hfz100_2 hfz100_3
 try clear hcz102_0 hcz102_1 hcz102_2 hcz102_3 hfz102_0 hfz102_1 hfz102_2 hfz102_3
 try clear hcz106_0 hcz106_1 hcz106_2 hcz106_3 hfz106_0 hfz106_1 hfz106_2 hfz106_3
 try clear hcz108_0 hcz108_1 hcz108_2 hcz108_3 hfz108_0 hfz108_1 hfz108_2 hfz108_3
 try clear hcz10_0 hcz10_1 hcz10_2 hfz10_0 hfz10_1 hfz10_2
 try clear hcz110_0 hcz110_1 hcz110_2 hcz110_3 hfz110_0 hfz110_1 hfz110_2 hfz110_3
 try clear hcz117_0 hcz117_1 hcz117_2 hcz117_3 hfz117_0 hfz117_1 hfz117_2 hfz117_3
 try clear hcz119_0 hcz119_1 hcz119_2 hcz119_3 hfz119_0 hfz119_1 hfz119_2 hfz119_3
 try clear hcz121_0 hcz121_1 hcz121_2 hcz121_3 hfz121_0 hfz121_1 hfz121_2 hfz121_3
 try clear hcz124_0 hcz124_1 hcz124_2 hcz124_3 hfz124_0 hfz124_1 hfz124_2 hfz124_3
 try clear hcz129_0 hcz129_1 hcz129_2 hcz129_3 hfz129_0 hfz129_1 hfz129_2 hfz129_3
 try clear hcz131_0 hcz131_1 hcz131_2 hcz131_3 hfz131_0 hfz131_1 hfz131_2 hfz131_3
 try clear hcz133_0 hcz133_1 hcz133_2 hcz133_3 hfz133_0 hfz133_1 hfz133_2 hfz133_3
 try clear hcz136_0 hcz136_1 hcz136_2 hcz136_3 hfz136_0 hfz136_1 hfz136_2 hfz136_3
 try clear hcz140_0 hcz140_1 hcz140_2 hcz140_3 hfz140_0 hfz140_1 hfz140_2 hfz140_3
 try clear hcz142_0 hcz142_1 hcz142_2 hcz142_3 hfz142_0 hfz142_1 hfz142_2 hfz142_3
 try clear hcz144_0 hcz144_1 hcz144_2 hcz144_3 hfz144_0 hfz144_1 hfz144_2 hfz144_3
 try clear hcz147_0 hcz147_1 hcz147_2 hcz147_3 hfz147_0 hfz147_1 hfz147_2 hfz147_3
 try clear hcz153_0 hcz153_1 hcz153_2 hcz153_3 hfz153_0 hfz153_1 hfz153_2 hfz153_3
 try clear hcz155_0 hcz155_1 hcz155_2 hcz155_3 hfz155_0 hfz155_1 hfz155_2 hfz155_3
 try clear hcz161_0 hcz161_1 hcz161_2 hcz161_3 hfz161_0 hfz161_1 hfz161_2 hfz161_3
 try clear hcz164_0 hcz164_1 hcz164_2 hcz164_3 hfz164_0 hfz164_1 hfz164_2 hfz164_3
 try clear hcz168_0 hcz168_1 hcz168_2 hcz168_3 hfz168_0 hfz168_1 hfz168_2 hfz168_3
 try clear hcz16_0 hcz16_1 hcz16_2 hcz16_3 hfz16_0 hfz16_1 hfz16_2 hfz16_3
 try clear hcz171_0 hcz171_1 hcz171_2 hcz171_3 hfz171_0 hfz171_1 hfz171_2 hfz171_3
 try clear hcz178_0 hcz178_1 hcz178_2 hcz178_3 hfz178_0 hfz178_1 hfz178_2 hfz178_3
 try clear hcz181_0 hcz181_1 hcz181_2 hcz181_3 hfz181_0 hfz181_1 hfz181_2 hfz181_3
 try clear hcz185_0 hcz185_1 hcz185_2 hcz185_3 hfz185_0 hfz185_1 hfz185_2 hfz185_3
 try clear hcz188_0 hcz188_1 hcz188_2 hcz188_3 hfz188_0 hfz188_1 hfz188_2 hfz188_3
 try clear hcz192_0 hcz192_1 hcz192_2 hcz192_3 hfz192_0 hfz192_1 hfz192_2 hfz192_3
 try clear hcz22_0 hcz22_1 hcz22_2 hcz22_3 hfz22_0 hfz22_1 hfz22_2 hfz22_3
 try clear hcz27_0 hcz27_1 hcz27_2 hcz27_3 hfz27_0 hfz27_1 hfz27_2 hfz27_3
 try clear hcz29_0 hcz29_1 hcz29_2 hcz29_3 hfz29_0 hfz29_1 hfz29_2 hfz29_3
 try clear hcz34_0 hcz34_1 hcz34_2 hcz34_3 hfz34_0 hfz34_1 hfz34_2 hfz34_3
 try clear hcz41_0 hcz41_1 hcz41_2 hcz41_3 hfz41_0 hfz41_1 hfz41_2 hfz41_3
 try clear hcz46_0 hcz46_1 hcz46_2 hcz46_3 hfz46_0 hfz46_1 hfz46_2 hfz46_3
 try clear hcz62_0 hcz62_1 hcz62_2 hcz62_3 hfz62_0 hfz62_1 hfz62_2 hfz62_3
 try clear hcz64_0 hcz64_1 hcz64_2 hcz64_3 hfz64_0 hfz64_1 hfz64_2 hfz64_3
 try clear hcz66_0 hcz66_1 hcz66_2 hcz66_3 hfz66_0 hfz66_1 hfz66_2 hfz66_3
 try clear hcz70_0 hcz70_1 hcz70_2 hcz70_3 hfz70_0 hfz70_1 hfz70_2 hfz70_3
 try clear hcz72_0 hcz72_1 hcz72_2 hcz72_3 hfz72_0 hfz72_1 hfz72_2 hfz72_3
 try clear hcz74_0 hcz74_1 hcz74_2 hcz74_3 hfz74_0 hfz74_1 hfz74_2 hfz74_3
 try clear hcz78_0 hcz78_1 hcz78_2 hcz78_3 hfz78_0 hfz78_1 hfz78_2 hfz78_3
 try clear hcz80_0 hcz80_1 hcz80_2 hcz80_3 hfz80_0 hfz80_1 hfz80_2 hfz80_3
 try clear hcz82_0 hcz82_1 hcz82_2 hcz82_3 hfz82_0 hfz82_1 hfz82_2 hfz82_3
 try clear hcz90_0 hcz90_1 hcz90_2 hcz90_3 hfz90_0 hfz90_1 hfz90_2 hfz90_3
 try clear hcz92_0 hcz92_1 hcz92_2 hcz92_3 hfz92_0 hfz92_1 hfz92_2 hfz92_3
 try clear hcz94_0 hcz94_1 hcz94_2 hcz94_3 hfz94_0 hfz94_1 hfz94_2 hfz94_3
 try clear hcz98_0 hcz98_1 hcz98_2 hcz98_3 hfz98_0 hfz98_1 hfz98_2 hfz98_3
 try clear p2
 try clear p6
 try clear p64
 obtain ⟨kq, x6_51, x10_51, x11_51, x146000_51, x146001_51, x146002_51, x146003_51, rfl, rfl, rfl, HA, HJ51, BK145, BK151, BK155, HI136, HB⟩ := hcut
 cases kq with
 | zero => exact absurd HA.out (by simp [laws_FnWindow.j4])
 | succ kj51 => {
 have H := HA.out
 clear HA
 simp only [laws_FnWindow.j4] at H
 have HC193 := Aside0.mk H
 clear H
 go_upto_region 46 with (fail)
 go_cut [181] (fun v181 wc => ∃ (kq : Nat) (x181_192 : Bool), v181 = .bool x181_192 ∧ Aside0 (laws_FnWindow.j5 kq (wrap64 (1 + t137)) t141 x10_51 x11_51 x12_2 x181_192 l0 t163 t164 x146000_51 x146001_51 x146002_51 x146003_51 = some r) ∧ Aside0 (kq ≤ kj51) ∧ Aside0 (wc.heap[gb145]? = some (.cells #[.int .i64 x146000_51, .int .i64 x146001_51, .int .i64 x146002_51, .int .i64 x146003_51] 36 (0, 0))) ∧ Aside0 (wc.heap[gb151]? = some (.cells #[.int .i64 t146, .int .i64 t147, .int .i64 t148, .int .i64 t149] 36 (0, 0))) ∧ Aside0 (wc.heap[gb155]? = some (.cells #[.int .i64 x146000_2, .int .i64 x146001_2, .int .i64 x146002_2, .int .i64 x146003_2] 36 (0, 0))) ∧ Aside0 (IsS25 w wc gb136 l0 t163 t164) ∧ Aside0 (Below w.heap.size w wc))
 case first => as_aux_lemma => (
 have H := HC193.out
 clear HC193
 by_cases c194 : x6_51 = 0
 {
 rw [if_pos c194] at H
 have c194b0 : (x6_51 == 0) = true := beq_iff_eq.mpr c194
 have c194b1 : (x6_51 != 0) = false := bne_eq_false_iff_eq.mpr c194
 clear c194
 (first | rw [c194b0] | (simp only [i64_w, i32_w]; rw [c194b0]) | skip)
 by_cases c195 : x146001_51 < (wrap64 (1 + t137))
 {
 rw [if_pos c195] at H
 have c195b0 : decide (x146001_51 < (wrap64 (1 + t137))) = true := decide_eq_true c195
 clear c195
 have H' := Aside0.mk H
 clear H
 have hnb196 := NB145_151.out
 have hnc196 := NB151_145.out
 have hnb197 := NB145_155.out
 have hnc197 := NB155_145.out
 have hnb198 := NB145_136.out
 have hnc198 := NB136_145.out
 obtain ⟨⟨hcz199_0, hcz199_1, hcz199_2, hcz199_3⟩, hfz199_0, hfz199_1, hfz199_2, hfz199_3⟩ := cells4 BK145.out
 go_wp2
 go_meet
 case rel => exact ⟨_, (true), (by first | rfl | (simp; done) | (simp [*]; done)), H', ⟨by have := HJ6.out; have := HK2.out; have := HJ37.out; have := HJ51.out; first | omega | exact Nat.le_refl _⟩, ⟨Bh BK145⟩, ⟨Bh BK151⟩, ⟨Bh BK155⟩, ⟨by repeat (first | (with_reducible first | exact HI136.out | apply IsS25.alloc | apply IsS25.drewN | apply IsS25.drew | apply IsS25.set_1 | apply IsS25.set_2 | refine IsS25.far ?_ NB136_145.out _ | refine IsS25.far ?_ NB136_151.out _ | refine IsS25.far ?_ NB136_155.out _) | exact HI136.out)⟩, ⟨by repeat (first | (with_reducible first | exact HB.out | apply below_alloc | apply pw_below_drewN | apply below_drew1 | refine below_set ?_ (IsS25.ge HI136.out) | refine below_set ?_ GE145.out | refine below_set ?_ GE151.out | refine below_set ?_ GE155.out) | exact HB.out)⟩⟩
 }
 {
 rw [if_neg c195] at H
 have c195b0 : decide (x146001_51 < (wrap64 (1 + t137))) = false := decide_eq_false c195
 clear c195
 by_cases c200 : x146000_51 = (wrap64 (1 + t137))
 {
 rw [if_pos c200] at H
 have c200b0 : (x146000_51 == (wrap64 (1 + t137))) = true := beq_iff_eq.mpr c200
 have c200b1 : (x146000_51 != (wrap64 (1 + t137))) = false := bne_eq_false_iff_eq.mpr c200
 clear c200
 have H' := Aside0.mk H
 clear H
 have hnb201 := NB145_151.out
 have hnc201 := NB151_145.out
 have hnb202 := NB145_155.out
 have hnc202 := NB155_145.out
 have hnb203 := NB145_136.out
 have hnc203 := NB136_145.out
 obtain ⟨⟨hcz204_0, hcz204_1, hcz204_2, hcz204_3⟩, hfz204_0, hfz204_1, hfz204_2, hfz204_3⟩ := cells4 BK145.out
 go_wp2
 go_meet
 case rel => exact ⟨_, (decide (x146001_51 > (wrap64 (x11_51 + x10_51)))), (by first | rfl | (simp; done) | (simp [*]; done)), H', ⟨by have := HJ6.out; have := HK2.out; have := HJ37.out; have := HJ51.out; first | omega | exact Nat.le_refl _⟩, ⟨Bh BK145⟩, ⟨Bh BK151⟩, ⟨Bh BK155⟩, ⟨by repeat (first | (with_reducible first | exact HI136.out | apply IsS25.alloc | apply IsS25.drewN | apply IsS25.drew | apply IsS25.set_1 | apply IsS25.set_2 | refine IsS25.far ?_ NB136_145.out _ | refine IsS25.far ?_ NB136_151.out _ | refine IsS25.far ?_ NB136_155.out _) | exact HI136.out)⟩, ⟨by repeat (first | (with_reducible first | exact HB.out | apply below_alloc | apply pw_below_drewN | apply below_drew1 | refine below_set ?_ (IsS25.ge HI136.out) | refine below_set ?_ GE145.out | refine below_set ?_ GE151.out | refine below_set ?_ GE155.out) | exact HB.out)⟩⟩
 }
 {
 rw [if_neg c200] at H
 have c200b0 : (x146000_51 == (wrap64 (1 + t137))) = false := beq_eq_false_iff_ne.mpr c200
 have c200b1 : (x146000_51 != (wrap64 (1 + t137))) = true := bne_iff_ne.mpr c200
 have H' := Aside0.mk H
 clear H
 have hnb205 := NB145_151.out
 have hnc205 := NB151_145.out
 have hnb206 := NB145_155.out
 have hnc206 := NB155_145.out
 have hnb207 := NB145_136.out
 have hnc207 := NB136_145.out
 obtain ⟨⟨hcz208_0, hcz208_1, hcz208_2, hcz208_3⟩, hfz208_0, hfz208_1, hfz208_2, hfz208_3⟩ := cells4 BK145.out
 go_wp2
 go_meet
 case rel => exact ⟨_, (true), (by first | rfl | (simp; done) | (simp [*]; done)), H', ⟨by have := HJ6.out; have := HK2.out; have := HJ37.out; have := HJ51.out; first | omega | exact Nat.le_refl _⟩, ⟨Bh BK145⟩, ⟨Bh BK151⟩, ⟨Bh BK155⟩, ⟨by repeat (first | (with_reducible first | exact HI136.out | apply IsS25.alloc | apply IsS25.drewN | apply IsS25.drew | apply IsS25.set_1 | apply IsS25.set_2 | refine IsS25.far ?_ NB136_145.out _ | refine IsS25.far ?_ NB136_151.out _ | refine IsS25.far ?_ NB136_155.out _) | exact HI136.out)⟩, ⟨by repeat (first | (with_reducible first | exact HB.out | apply below_alloc | apply pw_below_drewN | apply below_drew1 | refine below_set ?_ (IsS25.ge HI136.out) | refine below_set ?_ GE145.out | refine below_set ?_ GE151.out | refine below_set ?_ GE155.out) | exact HB.out)⟩⟩
 }
 }
 }
 {
 rw [if_neg c194] at H
 have c194b0 : (x6_51 == 0) = false := beq_eq_false_iff_ne.mpr c194
 have c194b1 : (x6_51 != 0) = true := bne_iff_ne.mpr c194
 (first | rw [c194b0] | (simp only [i64_w, i32_w]; rw [c194b0]) | skip)
 have H' := Aside0.mk H
 clear H
 go_wp2
 go_meet
 case rel => exact ⟨_, (true), (by first | rfl | (simp; done) | (simp [*]; done)), H', ⟨by have := HJ6.out; have := HK2.out; have := HJ37.out; have := HJ51.out; first | omega | exact Nat.le_refl _⟩, ⟨Bh BK145⟩, ⟨Bh BK151⟩, ⟨Bh BK155⟩, ⟨by repeat (first | (with_reducible first | exact HI136.out | apply IsS25.alloc | apply IsS25.drewN | apply IsS25.drew | apply IsS25.set_1 | apply IsS25.set_2 | refine IsS25.far ?_ NB136_145.out _ | refine IsS25.far ?_ NB136_151.out _ | refine IsS25.far ?_ NB136_155.out _) | exact HI136.out)⟩, ⟨by repeat (first | (with_reducible first | exact HB.out | apply below_alloc | apply pw_below_drewN | apply below_drew1 | refine below_set ?_ (IsS25.ge HI136.out) | refine below_set ?_ GE145.out | refine below_set ?_ GE151.out | refine below_set ?_ GE155.out) | exact HB.out)⟩⟩
 }
 )
 case rest => as_aux_lemma => (
 clear HC193
 try clear c1
 try clear c2
 try clear c2b0
 try clear c2b1
 try clear p2
 try clear c3
 try clear c4
 try clear c5
 try clear c6
 try clear p6
 try clear c7
 try clear c8
 try clear c9
 try clear c10
 try clear c11
 try clear c12
 try clear c13
 try clear c14
 try clear c15
 try clear c16
 try clear c17
 try clear c18
 try clear c19
 try clear c20
 try clear c21
 try clear c22
 try clear c23
 try clear c24
 try clear c24b0
 try clear c24b1
 try clear c25
 try clear c26
 try clear c28
 try clear c30
 try clear c32
 try clear c33
 try clear c36
 try clear c36b0
 try clear c39
 try clear c40
 try clear c43
 try clear c44
 try clear c45
 try clear c49
 try clear c49b0
 try clear c55
 try clear c55b0
 try clear c55b1
 try clear c57
 try clear c57b0
 try clear c57b1
 try clear c58
 try clear c58b0
 try clear c58b1
 try clear c59
 try clear c60
 try clear c61
 try clear p64
 try clear c67
 try clear c68
 try clear c69
 try clear c75
 try clear c76
 try clear c77
 try clear c83
 try clear c83b0
 try clear c83b1
 try clear c85
 try clear c85b0
 try clear c85b1
 try clear c86
 try clear c86b0
 try clear c86b1
 try clear c87
 try clear c88
 try clear c89
 try clear c95
 try clear c96
 try clear c97
 try clear c103
 try clear c104
 try clear c105
 try clear c111
 try clear c111b0
 try clear c111b1
 try clear c113
 try clear c113b0
 try clear c114
 try clear c115
 try clear c116
 try clear c122
 try clear c123
 try clear c125
 try clear c125b0
 try clear c126
 try clear c127
 try clear c128
 try clear c134
 try clear c135
 try clear c137
 try clear c138
 try clear c139
 try clear c145
 try clear c146
 try clear c150
 try clear c151
 try clear c152
 try clear c157
 try clear c157b0
 try clear c158
 try clear c159
 try clear c160
 try clear c162
 try clear c163
 try clear c165
 try clear c166
 try clear c167
 try clear c169
 try clear c170
 try clear c172
 try clear c173
 try clear c173b0
 try clear c174
 try clear c174b0
 try clear c175
 try clear c176
 try clear c177
 try clear c179
 try clear c180
 try clear c182
 try clear c183
 try clear c184
 try clear c186
 try clear c187
 try clear c189
 try clear c190
 try clear c191
 try clear c194
 try clear c194b0
 try clear c194b1
 try clear c195
 try clear c195b0
 try clear c196
 try clear c197
 try clear c198
 try clear c200
 try clear c200b0
 try clear c200b1
 try clear c201
 try clear c202
 try clear c203
 try clear c205
 try clear c206
 try clear c207
 try clear hcz100_0 hcz100_1 hcz100_2 hcz100_3 hfz100_0 hfz100_1 hfz100_2 hfz100_3
 try clear hcz102_0 hcz102_1 hcz102_2 hcz102_3 hfz102_0 hfz102_1 hfz102_2 hfz102_3
 try clear hcz106_0 hcz106_1 hcz106_2 hcz106_3 hfz106_0 hfz106_1 hfz106_2 hfz106_3
 try clear hcz108_0 hcz108_1 hcz108_2 hcz108_3 hfz108_0 hfz108_1 hfz108_2 hfz108_3
 try clear hcz10_0 hcz10_1 hcz10_2 hfz10_0 hfz10_1 hfz10_2
 try clear hcz110_0 hcz110_1 hcz110_2 hcz110_3 hfz110_0 hfz110_1 hfz110_2 hfz110_3
 try clear hcz117_0 hcz117_1 hcz117_2 hcz117_3 hfz117_0 hfz117_1 hfz117_2 hfz117_3
 try clear hcz119_0 hcz119_1 hcz119_2 hcz119_3 hfz119_0 hfz119_1 hfz119_2 hfz119_3
 try clear hcz121_0 hcz121_1 hcz121_2 hcz121_3 hfz121_0 hfz121_1 hfz121_2 hfz121_3
 try clear hcz124_0 hcz124_1 hcz124_2 hcz124_3 hfz124_0 hfz124_1 hfz124_2 hfz124_3
 try clear hcz129_0 hcz129_1 hcz129_2 hcz129_3 hfz129_0 hfz129_1 hfz129_2 hfz129_3
 try clear hcz131_0 hcz131_1 hcz131_2 hcz131_3 hfz131_0 hfz131_1 hfz131_2 hfz131_3
 try clear hcz133_0 hcz133_1 hcz133_2 hcz133_3 hfz133_0 hfz133_1 hfz133_2 hfz133_3
 try clear hcz136_0 hcz136_1 hcz136_2 hcz136_3 hfz136_0 hfz136_1 hfz136_2 hfz136_3
 try clear hcz140_0 hcz140_1 hcz140_2 hcz140_3 hfz140_0 hfz140_1 hfz140_2 hfz140_3
 try clear hcz142_0 hcz142_1 hcz142_2 hcz142_3 hfz142_0 hfz142_1 hfz142_2 hfz142_3
 try clear hcz144_0 hcz144_1 hcz144_2 hcz144_3 hfz144_0 hfz144_1 hfz144_2 hfz144_3
 try clear hcz147_0 hcz147_1 hcz147_2 hcz147_3 hfz147_0 hfz147_1 hfz147_2 hfz147_3
 try clear hcz153_0 hcz153_1 hcz153_2 hcz153_3 hfz153_0 hfz153_1 hfz153_2 hfz153_3
 try clear hcz155_0 hcz155_1 hcz155_2 hcz155_3 hfz155_0 hfz155_1 hfz155_2 hfz155_3
 try clear hcz161_0 hcz161_1 hcz161_2 hcz161_3 hfz161_0 hfz161_1 hfz161_2 hfz161_3
 try clear hcz164_0 hcz164_1 hcz164_2 hcz164_3 hfz164_0 hfz164_1 hfz164_2 hfz164_3
 try clear hcz168_0 hcz168_1 hcz168_2 hcz168_3 hfz168_0 hfz168_1 hfz168_2 hfz168_3
 try clear hcz16_0 hcz16_1 hcz16_2 hcz16_3 hfz16_0 hfz16_1 hfz16_2 hfz16_3
 try clear hcz171_0 hcz171_1 hcz171_2 hcz171_3 hfz171_0 hfz171_1 hfz171_2 hfz171_3
 try clear hcz178_0 hcz178_1 hcz178_2 hcz178_3 hfz178_0 hfz178_1 hfz178_2 hfz178_3
 try clear hcz181_0 hcz181_1 hcz181_2 hcz181_3 hfz181_0 hfz181_1 hfz181_2 hfz181_3
 try clear hcz185_0 hcz185_1 hcz185_2 hcz185_3 hfz185_0 hfz185_1 hfz185_2 hfz185_3
 try clear hcz188_0 hcz188_1 hcz188_2 hcz188_3 hfz188_0 hfz188_1 hfz188_2 hfz188_3
 try clear hcz192_0 hcz192_1 hcz192_2 hcz192_3 hfz192_0 hfz192_1 hfz192_2 hfz192_3
 try clear hcz199_0 hcz199_1 hcz199_2 hcz199_3 hfz199_0 hfz199_1 hfz199_2 hfz199_3
 try clear hcz204_0 hcz204_1 hcz204_2 hcz204_3 hfz204_0 hfz204_1 hfz204_2 hfz204_3
 try clear hcz208_0 hcz208_1 hcz208_2 hcz208_3 hfz208_0 hfz208_1 hfz208_2 hfz208_3
 try clear hcz22_0 hcz22_1 hcz22_2 hcz22_3 hfz22_0 hfz22_1 hfz22_2 hfz22_3
 try clear hcz27_0 hcz27_1 hcz27_2 hcz27_3 hfz27_0 hfz27_1 hfz27_2 hfz27_3
 try clear hcz29_0 hcz29_1 hcz29_2 hcz29_3 hfz29_0 hfz29_1 hfz29_2 hfz29_3
 try clear hcz34_0 hcz34_1 hcz34_2 hcz34_3 hfz34_0 hfz34_1 hfz34_2 hfz34_3
 try clear hcz41_0 hcz41_1 hcz41_2 hcz41_3 hfz41_0 hfz41_1 hfz41_2 hfz41_3
 try clear hcz46_0 hcz46_1 hcz46_2 hcz46_3 hfz46_0 hfz46_1 hfz46_2 hfz46_3
 try clear hcz62_0 hcz62_1 hcz62_2 hcz62_3 hfz62_0 hfz62_1 hfz62_2 hfz62_3
 try clear hcz64_0 hcz64_1 hcz64_2 hcz64_3 hfz64_0 hfz64_1 hfz64_2 hfz64_3
 try clear hcz66_0 hcz66_1 hcz66_2 hcz66_3 hfz66_0 hfz66_1 hfz66_2 hfz66_3
 try clear hcz70_0 hcz70_1 hcz70_2 hcz70_3 hfz70_0 hfz70_1 hfz70_2 hfz70_3
 try clear hcz72_0 hcz72_1 hcz72_2 hcz72_3 hfz72_0 hfz72_1 hfz72_2 hfz72_3
 try clear hcz74_0 hcz74_1 hcz74_2 hcz74_3 hfz74_0 hfz74_1 hfz74_2 hfz74_3
 try clear hcz78_0 hcz78_1 hcz78_2 hcz78_3 hfz78_0 hfz78_1 hfz78_2 hfz78_3
 try clear hcz80_0 hcz80_1 hcz80_2 hcz80_3 hfz80_0 hfz80_1 hfz80_2 hfz80_3
 try clear hcz82_0 hcz82_1 hcz82_2 hcz82_3 hfz82_0 hfz82_1 hfz82_2 hfz82_3
 try clear hcz90_0 hcz90_1 hcz90_2 hcz90_3 hfz90_0 hfz90_1 hfz90_2 hfz90_3
 try clear hcz92_0 hcz92_1 hcz92_2 hcz92_3 hfz92_0 hfz92_1 hfz92_2 hfz92_3
 try clear hcz94_0 hcz94_1 hcz94_2 hcz94_3 hfz94_0 hfz94_1 hfz94_2 hfz94_3
 try clear hcz98_0 hcz98_1 hcz98_2 hcz98_3 hfz98_0 hfz98_1 hfz98_2 hfz98_3
 try clear p2
 try clear p6
 try clear p64
 obtain ⟨kq, x181_192, rfl, HA, HJ192, BK145, BK151, BK155, HI136, HB⟩ := hcut
 cases kq with
 | zero => exact absurd HA.out (by simp [laws_FnWindow.j5])
 | succ kj192 => {
 have H := HA.out
 clear HA
 simp only [laws_FnWindow.j5] at H
 by_cases c209 : x181_192 = true
 {
 subst c209
 have H1 : (some false) = some r := by rw [if_pos rfl] at H; exact H
 clear H
 have H := H1
 clear H1
 obtain rfl := Option.some.inj H
 go_wp2
 go_ret
 exact ⟨by first | rfl | (simp [errW_none, errW_some] <;> rfl) | (simp [*, errW_none, errW_some] <;> rfl), by repeat (first | (with_reducible first | exact HB.out | apply below_alloc | apply pw_below_drewN | apply below_drew1 | refine below_set ?_ (IsS25.ge HI136.out) | refine below_set ?_ GE145.out | refine below_set ?_ GE151.out | refine below_set ?_ GE155.out) | exact HB.out)⟩
 }
 {
 replace c209 := Bool.eq_false_iff.mpr c209
 subst c209
 have H1 : (laws_FnWindow.l0 kj192 (wrap64 (1 + t137)) t141 x10_51 x11_51 (wrap64 (x12_2 - 1)) l0 t163 t164 x146000_51 x146001_51 x146002_51 x146003_51) = some r := by rw [if_neg (show ¬ (false = true) by decide)] at H; exact H
 clear H
 have H := H1
 clear H1
 have H' := Aside0.mk H
 clear H
 go_wp2
 go_roundg kj192
 case measure => have := HJ6.out; have := HK2.out; have := HJ37.out; have := HJ51.out; have := HJ192.out; omega
 case rel => exact ⟨(x10_51), (x11_51), (wrap64 (x12_2 - 1)), (t163), (t164), (x146000_51), (x146001_51), (x146002_51), (x146003_51), (by first | rfl | (simp; done) | (simp [*]; done)), (by first | rfl | (simp; done) | (simp [*]; done)), (by first | rfl | (simp; done) | (simp [*]; done)), H', ⟨by have := HJ6.out; have := HK2.out; have := HJ37.out; have := HJ51.out; have := HJ192.out; omega⟩, ⟨Bh BK145⟩, ⟨Bh BK151⟩, ⟨by repeat (first | (with_reducible first | exact HI136.out | apply IsS25.alloc | apply IsS25.drewN | apply IsS25.drew | apply IsS25.set_1 | apply IsS25.set_2 | refine IsS25.far ?_ NB136_145.out _ | refine IsS25.far ?_ NB136_151.out _ | refine IsS25.far ?_ NB136_155.out _) | exact HI136.out)⟩, ⟨by repeat (first | (with_reducible first | exact HB.out | apply below_alloc | apply pw_below_drewN | apply below_drew1 | refine below_set ?_ (IsS25.ge HI136.out) | refine below_set ?_ GE145.out | refine below_set ?_ GE151.out | refine below_set ?_ GE155.out) | exact HB.out)⟩⟩
 }
 }
 )
 }
 )
 }
 )
 }
 {
 rw [if_neg c36] at H
 have c36b0 : decide (0 < x12_2) = false := decide_eq_false c36
 clear c36
 obtain rfl := Option.some.inj H
 go_wp2
 go_ret
 exact ⟨by first | rfl | (simp [errW_none, errW_some] <;> rfl) | (simp [*, errW_none, errW_some] <;> rfl), by repeat (first | (with_reducible first | exact HB.out | apply below_alloc | apply pw_below_drewN | apply below_drew1 | refine below_set ?_ (IsS25.ge HI136.out) | refine below_set ?_ GE145.out | refine below_set ?_ GE151.out) | exact HB.out)⟩
 }
 }
 )
 }
 }
 )
 }

/-- THE ONE PURE STATEMENT of laws_FnWindow: yours. -/
def laws_FnWindow.Pure : Prop := ∀ (l0 : List Int), l0.length ≤ maxLen → l0.length * 1 ≤ 140737488351232 → (∀ x ∈ l0, (Lit.int .u8 x).wf = true) → ∃ k, laws_FnWindow.f k l0 = some true
theorem laws_FnWindow.walk (P : laws_FnWindow.Pure) (a0 : Option Addr) (len0 cap0 : Nat) (z0 : List Int) (w : World) (w0 : (a0 = none ∧ len0 = 0 ∧ cap0 = 0 ∧ z0 = []) ∨ ∃ x, a0 = some x ∧ len0 ≤ cap0 ∧ cap0 ≤ maxLen ∧ z0.length = cap0 ∧ (∀ i, i < z0.length → w.cell? (x.add i) = some (.int .u8 (z0.getD i 0))) ∧ ∀ n ∈ z0, (Lit.int .u8 n).wf = true) (y0 : len0 * 1 ≤ 140737488351232) :
 Calls Try.prog 4 #[.slice a0 len0 cap0] w fun e w' => e = .returned (.bool true) ∧ Below w.heap.size w w' := by
 obtain ⟨l0, rfl, hr0, hm0, hw0, hc0⟩ := ReadsInt.ofRowC w0
 obtain ⟨k, h⟩ := P l0 hm0 y0 hw0
 refine (laws_FnWindow.calls k _ _ l0 true w (Kd.C_of_reads (d := (0 : Int)) (h1 := fun _ => rfl) hr0) hc0 h).mono ?_
 rintro e w' ⟨rfl, hd⟩
 exact ⟨rfl, hd⟩

end Go.Proofs.Ytdigkdoihfpdgaa.PFnWindow
