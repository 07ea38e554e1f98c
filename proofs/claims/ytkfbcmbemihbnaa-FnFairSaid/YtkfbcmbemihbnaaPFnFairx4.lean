-- Written for this claim by a program of this session (wip/mkprint.py: the print, turned at a few places). Not trusted: Lean checks it.
import Derived.Test.YtkfbcmbemihbnaaPFnFairx0
import Derived.Test.YtkfbcmbemihbnaaPFnFairx1
import Derived.Test.YtkfbcmbemihbnaaPFnFairx2
import Derived.Test.YtkfbcmbemihbnaaPFnFairx3
namespace Go.Proofs.Ytkfbcmbemihbnaa.PFnFair
open Go.RowKit Go.Proofs.YtkfbcmbemihbnaaW.PrintWords Go.Proofs.YtkfbcmbemihbnaaW.PrintLast Go.Proofs.YtkfbcmbemihbnaaW.PrintMore
attribute [local go_sem] max2_int min2_int max_two min_two max_three min_three max_four min_four   -- for this text's walks alone
set_option linter.unusedVariables false
set_option linter.unusedSimpArgs false

/-! ### laws_FnFair: function 3 -/
mutual
def laws_FnFair.j0 : Nat → List Int → Int → List (S35) → Bool → Option (Bool)
  | 0, _, _, _, _ => none
  | k + 1, x5, x6, x7, x50 => if x50 = true then (some false) else (if 0 < (x5.length : Int) then (if 1 < (x5.length : Int) then ((laws_lwAway.f (rd x5 0) (rd x5 1)).bind fun t183 => (laws_FnFair.l0 k x6 x7 (rd x5 0) (rd x5 1) t183 0)) else (none)) else (none))
def laws_FnFair.l0 : Nat → Int → List (S35) → Int → Int → Int → Int → Option (Bool)
  | 0, _, _, _, _, _, _ => none
  | k + 1, x6, x7, x9, x10, x11, x12 => if x12 < (x7.length : Int) then (if 0 ≤ x12 then (if (((rd_T35 x7 x12).f1).length : Int) = 2 then (laws_FnFair.j2 k x6 x7 x9 x10 x11 x12 (((rd_T35 x7 x12).f0) != (decide ((wrap64 (x9 + x10)) > x6)))) else (laws_FnFair.j2 k x6 x7 x9 x10 x11 x12 true)) else (none)) else (some true)
def laws_FnFair.j2 : Nat → Int → List (S35) → Int → Int → Int → Int → Bool → Option (Bool)
  | 0, _, _, _, _, _, _, _ => none
  | k + 1, x6, x7, x9, x10, x11, x12, x85 => if x85 = true then (some false) else ((laws_lwAway.f x9 x10).bind fun t186 => (if 0 ≤ x12 then (if x12 < (x7.length : Int) then (if 0 < (((rd_T35 x7 x12).f1).length : Int) then (if 1 < (((rd_T35 x7 x12).f1).length : Int) then ((laws_lwAway.f (rd ((rd_T35 x7 x12).f1) 0) (rd ((rd_T35 x7 x12).f1) 1)).bind fun t191 => (if t191 > t186 then (laws_FnFair.j3 k x6 x7 (rd ((rd_T35 x7 x12).f1) 0) (rd ((rd_T35 x7 x12).f1) 1) x11 x12 t191 true) else (if (rd_T35 x7 x12).f0 = true then (laws_FnFair.j3 k x6 x7 (rd ((rd_T35 x7 x12).f1) 0) (rd ((rd_T35 x7 x12).f1) 1) x11 x12 t191 (decide (t191 > (wrap64 (Int.tdiv (wrap64 (t186 + 1)) 2))))) else (laws_FnFair.j3 k x6 x7 (rd ((rd_T35 x7 x12).f1) 0) (rd ((rd_T35 x7 x12).f1) 1) x11 x12 t191 false)))) else (none)) else (none)) else (none)) else (none)))
def laws_FnFair.j3 : Nat → Int → List (S35) → Int → Int → Int → Int → Int → Bool → Option (Bool)
  | 0, _, _, _, _, _, _, _, _ => none
  | k + 1, x6, x7, x9, x10, x11, x12, x14, x122 => if x122 = true then (some false) else (if 0 ≤ x12 then (if x12 < (x7.length : Int) then (if (rd_T35 x7 x12).f0 = true then (if x14 > (wrap64 (Int.tdiv (wrap64 (x11 + 1)) 2)) then (some false) else (laws_FnFair.l0 k x6 x7 x9 x10 (wrap64 (Int.tdiv (wrap64 (x11 + 1)) 2)) (wrap64 (x12 + 1)))) else (if x14 > x11 then (some false) else (laws_FnFair.l0 k x6 x7 x9 x10 x11 (wrap64 (x12 + 1))))) else (none)) else (none))
end
def laws_FnFair.f (k : Nat) (l0 : List Int) : Option (Bool) := if (l0.length : Int) > 1048576 then (some true) else ((laws_lwBegin.f k l0 13).bind fun bt153 => ((laws_lwNext.f l0 bt153.1 bt153.2 1500).bind fun bt156 => ((laws_lwNext.f l0 bt156.2.1 bt156.2.2 100000).bind fun bt159 => ((laws_lwNext.f l0 bt159.2.1 bt159.2.2 100000).bind fun bt162 => ((some (([wrap64 ((wrap64 (2 * (wrap64 (1 + bt156.1)))) + bt159.1), wrap64 ((wrap64 (2 * (wrap64 (1 + bt156.1)))) + bt162.1)] : List Int) : List Int)).bind fun y165 => ((laws_lwNext.f l0 bt162.2.1 bt162.2.2 150000).bind fun bt168 => ((some (([] : List Int) : List Int)).bind fun y171 => (if y171.length + y165.length < 17592186044416 then ((impl_Share.f k (wrap64 (1 + bt156.1)) (wrap64 ((wrap64 (4 * (wrap64 (1 + bt156.1)))) + bt168.1)) (y171 ++ y165) 150).bind fun bt177 => (if bt177.2 = 0 then (laws_FnFair.j0 k y165 (wrap64 ((wrap64 (4 * (wrap64 (1 + bt156.1)))) + bt168.1)) bt177.1 ((bt177.1.length : Int) != 150)) else (laws_FnFair.j0 k y165 (wrap64 ((wrap64 (4 * (wrap64 (1 + bt156.1)))) + bt168.1)) bt177.1 true))) else (none)))))))))
theorem laws_FnFair.mono_l : ∀ k, (∀ y0 y1 y2 y3, LeO (laws_FnFair.j0 k y0 y1 y2 y3) (laws_FnFair.j0 (k + 1) y0 y1 y2 y3)) ∧ (∀ y0 y1 y2 y3 y4 y5, LeO (laws_FnFair.l0 k y0 y1 y2 y3 y4 y5) (laws_FnFair.l0 (k + 1) y0 y1 y2 y3 y4 y5)) ∧ (∀ y0 y1 y2 y3 y4 y5 y6, LeO (laws_FnFair.j2 k y0 y1 y2 y3 y4 y5 y6) (laws_FnFair.j2 (k + 1) y0 y1 y2 y3 y4 y5 y6)) ∧ (∀ y0 y1 y2 y3 y4 y5 y6 y7, LeO (laws_FnFair.j3 k y0 y1 y2 y3 y4 y5 y6 y7) (laws_FnFair.j3 (k + 1) y0 y1 y2 y3 y4 y5 y6 y7))
  | 0 => ⟨fun _ _ _ _ r h => by simp [laws_FnFair.j0] at h, fun _ _ _ _ _ _ r h => by simp [laws_FnFair.l0] at h, fun _ _ _ _ _ _ _ r h => by simp [laws_FnFair.j2] at h, fun _ _ _ _ _ _ _ _ r h => by simp [laws_FnFair.j3] at h⟩
  | k + 1 => by
    obtain ⟨ih0, ih1, ih2, ih3⟩ := laws_FnFair.mono_l k
    refine ⟨?_, ?_, ?_, ?_⟩
    · intro y0 y1 y2 y3
      unfold laws_FnFair.j0
      repeat' first
      | (with_reducible exact ih0 _ _ _ _)
      | (with_reducible exact ih1 _ _ _ _ _ _)
      | (with_reducible exact ih2 _ _ _ _ _ _ _)
      | (with_reducible exact ih3 _ _ _ _ _ _ _ _)
      | (with_reducible exact impl_Share.mono _ _ _ _ _)
      | (with_reducible exact laws_lwBegin.mono _ _ _)
      | (with_reducible exact LeO.refl _)
      | (with_reducible exact LeO.none _)
      | (with_reducible refine LeO.ite ?_ ?_)
      | (with_reducible refine LeO.bind ?_ (fun _ => ?_))
      | exact ih0 _ _ _ _
      | exact ih1 _ _ _ _ _ _
      | exact ih2 _ _ _ _ _ _ _
      | exact ih3 _ _ _ _ _ _ _ _
      | exact impl_Share.mono _ _ _ _ _
      | exact laws_lwBegin.mono _ _ _
      | exact LeO.none _
      | refine LeO.ite ?_ ?_
      | refine LeO.bind ?_ (fun _ => ?_)
    · intro y0 y1 y2 y3 y4 y5
      unfold laws_FnFair.l0
      repeat' first
      | (with_reducible exact ih0 _ _ _ _)
      | (with_reducible exact ih1 _ _ _ _ _ _)
      | (with_reducible exact ih2 _ _ _ _ _ _ _)
      | (with_reducible exact ih3 _ _ _ _ _ _ _ _)
      | (with_reducible exact impl_Share.mono _ _ _ _ _)
      | (with_reducible exact laws_lwBegin.mono _ _ _)
      | (with_reducible exact LeO.refl _)
      | (with_reducible exact LeO.none _)
      | (with_reducible refine LeO.ite ?_ ?_)
      | (with_reducible refine LeO.bind ?_ (fun _ => ?_))
      | exact ih0 _ _ _ _
      | exact ih1 _ _ _ _ _ _
      | exact ih2 _ _ _ _ _ _ _
      | exact ih3 _ _ _ _ _ _ _ _
      | exact impl_Share.mono _ _ _ _ _
      | exact laws_lwBegin.mono _ _ _
      | exact LeO.none _
      | refine LeO.ite ?_ ?_
      | refine LeO.bind ?_ (fun _ => ?_)
    · intro y0 y1 y2 y3 y4 y5 y6
      unfold laws_FnFair.j2
      repeat' first
      | (with_reducible exact ih0 _ _ _ _)
      | (with_reducible exact ih1 _ _ _ _ _ _)
      | (with_reducible exact ih2 _ _ _ _ _ _ _)
      | (with_reducible exact ih3 _ _ _ _ _ _ _ _)
      | (with_reducible exact impl_Share.mono _ _ _ _ _)
      | (with_reducible exact laws_lwBegin.mono _ _ _)
      | (with_reducible exact LeO.refl _)
      | (with_reducible exact LeO.none _)
      | (with_reducible refine LeO.ite ?_ ?_)
      | (with_reducible refine LeO.bind ?_ (fun _ => ?_))
      | exact ih0 _ _ _ _
      | exact ih1 _ _ _ _ _ _
      | exact ih2 _ _ _ _ _ _ _
      | exact ih3 _ _ _ _ _ _ _ _
      | exact impl_Share.mono _ _ _ _ _
      | exact laws_lwBegin.mono _ _ _
      | exact LeO.none _
      | refine LeO.ite ?_ ?_
      | refine LeO.bind ?_ (fun _ => ?_)
    · intro y0 y1 y2 y3 y4 y5 y6 y7
      unfold laws_FnFair.j3
      repeat' first
      | (with_reducible exact ih0 _ _ _ _)
      | (with_reducible exact ih1 _ _ _ _ _ _)
      | (with_reducible exact ih2 _ _ _ _ _ _ _)
      | (with_reducible exact ih3 _ _ _ _ _ _ _ _)
      | (with_reducible exact impl_Share.mono _ _ _ _ _)
      | (with_reducible exact laws_lwBegin.mono _ _ _)
      | (with_reducible exact LeO.refl _)
      | (with_reducible exact LeO.none _)
      | (with_reducible refine LeO.ite ?_ ?_)
      | (with_reducible refine LeO.bind ?_ (fun _ => ?_))
      | exact ih0 _ _ _ _
      | exact ih1 _ _ _ _ _ _
      | exact ih2 _ _ _ _ _ _ _
      | exact ih3 _ _ _ _ _ _ _ _
      | exact impl_Share.mono _ _ _ _ _
      | exact laws_lwBegin.mono _ _ _
      | exact LeO.none _
      | refine LeO.ite ?_ ?_
      | refine LeO.bind ?_ (fun _ => ?_)
theorem laws_FnFair.mono : ∀ a0 k, LeO (laws_FnFair.f k a0) (laws_FnFair.f (k + 1) a0) := by
 intro a0 k
 obtain ⟨ih0, ih1, ih2, ih3⟩ := laws_FnFair.mono_l k
 unfold laws_FnFair.f
 repeat' first
     | (with_reducible exact ih0 _ _ _ _)
     | (with_reducible exact ih1 _ _ _ _ _ _)
     | (with_reducible exact ih2 _ _ _ _ _ _ _)
     | (with_reducible exact ih3 _ _ _ _ _ _ _ _)
     | (with_reducible exact impl_Share.mono _ _ _ _ _)
     | (with_reducible exact laws_lwBegin.mono _ _ _)
     | (with_reducible exact LeO.refl _)
     | (with_reducible exact LeO.none _)
     | (with_reducible refine LeO.ite ?_ ?_)
     | (with_reducible refine LeO.bind ?_ (fun _ => ?_))
     | exact ih0 _ _ _ _
     | exact ih1 _ _ _ _ _ _
     | exact ih2 _ _ _ _ _ _ _
     | exact ih3 _ _ _ _ _ _ _ _
     | exact impl_Share.mono _ _ _ _ _
     | exact laws_lwBegin.mono _ _ _
     | exact LeO.none _
     | refine LeO.ite ?_ ?_
     | refine LeO.bind ?_ (fun _ => ?_)
set_option maxHeartbeats 60000000 in
set_option maxRecDepth 100000 in
theorem laws_FnFair.calls (k : Nat) (A0 : Option Addr) (c0 : Nat) (l0 : List Int) (r : Bool) (w : World) (hr0 : Kd.C (Kd.int .u8) w A0 l0.length l0) (hc0 : l0.length ≤ c0) (h : laws_FnFair.f k l0 = some r) :
 Calls Try.prog 3 #[.slice A0 l0.length c0] w fun e w' => e = .returned (.bool r) ∧ Below w.heap.size w w' := by
 have hu25 := Try.underlying25
 have HR0 := Aside0.mk hr0
 have HC0 := Aside0.mk hc0
 clear hr0 hc0
 have HB := Aside0.mk (Below.refl w.heap.size w)
 have H : (if (l0.length : Int) > 1048576 then (some true) else ((laws_lwBegin.f k l0 13).bind fun bt153 => ((laws_lwNext.f l0 bt153.1 bt153.2 1500).bind fun bt156 => ((laws_lwNext.f l0 bt156.2.1 bt156.2.2 100000).bind fun bt159 => ((laws_lwNext.f l0 bt159.2.1 bt159.2.2 100000).bind fun bt162 => ((some (([wrap64 ((wrap64 (2 * (wrap64 (1 + bt156.1)))) + bt159.1), wrap64 ((wrap64 (2 * (wrap64 (1 + bt156.1)))) + bt162.1)] : List Int) : List Int)).bind fun y165 => ((laws_lwNext.f l0 bt162.2.1 bt162.2.2 150000).bind fun bt168 => ((some (([] : List Int) : List Int)).bind fun y171 => (if y171.length + y165.length < 17592186044416 then ((impl_Share.f k (wrap64 (1 + bt156.1)) (wrap64 ((wrap64 (4 * (wrap64 (1 + bt156.1)))) + bt168.1)) (y171 ++ y165) 150).bind fun bt177 => (if bt177.2 = 0 then (laws_FnFair.j0 k y165 (wrap64 ((wrap64 (4 * (wrap64 (1 + bt156.1)))) + bt168.1)) bt177.1 ((bt177.1.length : Int) != 150)) else (laws_FnFair.j0 k y165 (wrap64 ((wrap64 (4 * (wrap64 (1 + bt156.1)))) + bt168.1)) bt177.1 true))) else (none)))))))))) = some r := h
 clear h
 by_cases c2 : (l0.length : Int) > 1048576
 {
 rw [if_pos c2] at H
 have c2b0 : decide (1048576 < (l0.length : Int)) = true := decide_eq_true c2
 have c2b1 : decide (1048576 < l0.length) = true := decide_eq_true (by omega)
 clear c2
 obtain rfl := Option.some.inj H
 go_enter Try.func3, Try.ntmps3
 go_wp2
 all_goals (try (rename_i h_; exfalso; cases h_; done))
 all_goals (try (rename_i h_ h2_; exfalso; cases h_; done))
 go_ret
 exact ⟨by first | rfl | (simp [errW_none, errW_some] <;> rfl) | (simp [*, errW_none, errW_some] <;> rfl), wB⟩
 }
 {
 rw [if_neg c2] at H
 have c2b0 : decide (1048576 < (l0.length : Int)) = false := decide_eq_false c2
 have c2b1 : decide (1048576 < l0.length) = false := decide_eq_false (by omega)
 clear c2
 replace H := Option.bind_eq_some_iff.mp H
 obtain ⟨⟨t153, t154⟩, A30, H⟩ := H
 replace H : ((laws_lwNext.f l0 t153 t154 1500).bind fun bt156 => ((laws_lwNext.f l0 bt156.2.1 bt156.2.2 100000).bind fun bt159 => ((laws_lwNext.f l0 bt159.2.1 bt159.2.2 100000).bind fun bt162 => ((some (([wrap64 ((wrap64 (2 * (wrap64 (1 + bt156.1)))) + bt159.1), wrap64 ((wrap64 (2 * (wrap64 (1 + bt156.1)))) + bt162.1)] : List Int) : List Int)).bind fun y165 => ((laws_lwNext.f l0 bt162.2.1 bt162.2.2 150000).bind fun bt168 => ((some (([] : List Int) : List Int)).bind fun y171 => (if y171.length + y165.length < 17592186044416 then ((impl_Share.f k (wrap64 (1 + bt156.1)) (wrap64 ((wrap64 (4 * (wrap64 (1 + bt156.1)))) + bt168.1)) (y171 ++ y165) 150).bind fun bt177 => (if bt177.2 = 0 then (laws_FnFair.j0 k y165 (wrap64 ((wrap64 (4 * (wrap64 (1 + bt156.1)))) + bt168.1)) bt177.1 ((bt177.1.length : Int) != 150)) else (laws_FnFair.j0 k y165 (wrap64 ((wrap64 (4 * (wrap64 (1 + bt156.1)))) + bt168.1)) bt177.1 true))) else (none)))))))) = some r := H
 have A3 := Aside0.mk A30
 clear A30
 replace H := Option.bind_eq_some_iff.mp H
 obtain ⟨⟨t156, t157, t158⟩, A40, H⟩ := H
 replace H : ((laws_lwNext.f l0 t157 t158 100000).bind fun bt159 => ((laws_lwNext.f l0 bt159.2.1 bt159.2.2 100000).bind fun bt162 => ((some (([wrap64 ((wrap64 (2 * (wrap64 (1 + t156)))) + bt159.1), wrap64 ((wrap64 (2 * (wrap64 (1 + t156)))) + bt162.1)] : List Int) : List Int)).bind fun y165 => ((laws_lwNext.f l0 bt162.2.1 bt162.2.2 150000).bind fun bt168 => ((some (([] : List Int) : List Int)).bind fun y171 => (if y171.length + y165.length < 17592186044416 then ((impl_Share.f k (wrap64 (1 + t156)) (wrap64 ((wrap64 (4 * (wrap64 (1 + t156)))) + bt168.1)) (y171 ++ y165) 150).bind fun bt177 => (if bt177.2 = 0 then (laws_FnFair.j0 k y165 (wrap64 ((wrap64 (4 * (wrap64 (1 + t156)))) + bt168.1)) bt177.1 ((bt177.1.length : Int) != 150)) else (laws_FnFair.j0 k y165 (wrap64 ((wrap64 (4 * (wrap64 (1 + t156)))) + bt168.1)) bt177.1 true))) else (none))))))) = some r := H
 have A4 := Aside0.mk A40
 clear A40
 replace H := Option.bind_eq_some_iff.mp H
 obtain ⟨⟨t159, t160, t161⟩, A50, H⟩ := H
 replace H : ((laws_lwNext.f l0 t160 t161 100000).bind fun bt162 => ((some (([wrap64 ((wrap64 (2 * (wrap64 (1 + t156)))) + t159), wrap64 ((wrap64 (2 * (wrap64 (1 + t156)))) + bt162.1)] : List Int) : List Int)).bind fun y165 => ((laws_lwNext.f l0 bt162.2.1 bt162.2.2 150000).bind fun bt168 => ((some (([] : List Int) : List Int)).bind fun y171 => (if y171.length + y165.length < 17592186044416 then ((impl_Share.f k (wrap64 (1 + t156)) (wrap64 ((wrap64 (4 * (wrap64 (1 + t156)))) + bt168.1)) (y171 ++ y165) 150).bind fun bt177 => (if bt177.2 = 0 then (laws_FnFair.j0 k y165 (wrap64 ((wrap64 (4 * (wrap64 (1 + t156)))) + bt168.1)) bt177.1 ((bt177.1.length : Int) != 150)) else (laws_FnFair.j0 k y165 (wrap64 ((wrap64 (4 * (wrap64 (1 + t156)))) + bt168.1)) bt177.1 true))) else (none)))))) = some r := H
 have A5 := Aside0.mk A50
 clear A50
 replace H := Option.bind_eq_some_iff.mp H
 obtain ⟨⟨t162, t163, t164⟩, A60, H⟩ := H
 replace H : ((some (([wrap64 ((wrap64 (2 * (wrap64 (1 + t156)))) + t159), wrap64 ((wrap64 (2 * (wrap64 (1 + t156)))) + t162)] : List Int) : List Int)).bind fun y165 => ((laws_lwNext.f l0 t163 t164 150000).bind fun bt168 => ((some (([] : List Int) : List Int)).bind fun y171 => (if y171.length + y165.length < 17592186044416 then ((impl_Share.f k (wrap64 (1 + t156)) (wrap64 ((wrap64 (4 * (wrap64 (1 + t156)))) + bt168.1)) (y171 ++ y165) 150).bind fun bt177 => (if bt177.2 = 0 then (laws_FnFair.j0 k y165 (wrap64 ((wrap64 (4 * (wrap64 (1 + t156)))) + bt168.1)) bt177.1 ((bt177.1.length : Int) != 150)) else (laws_FnFair.j0 k y165 (wrap64 ((wrap64 (4 * (wrap64 (1 + t156)))) + bt168.1)) bt177.1 true))) else (none))))) = some r := H
 have A6 := Aside0.mk A60
 clear A60
 obtain ⟨y165, hy165⟩ : ∃ y_ : List Int, y_ = (([wrap64 ((wrap64 (2 * (wrap64 (1 + t156)))) + t159), wrap64 ((wrap64 (2 * (wrap64 (1 + t156)))) + t162)] : List Int)) := ⟨_, rfl⟩
 replace H : ((laws_lwNext.f l0 t163 t164 150000).bind fun bt168 => ((some (([] : List Int) : List Int)).bind fun y171 => (if y171.length + y165.length < 17592186044416 then ((impl_Share.f k (wrap64 (1 + t156)) (wrap64 ((wrap64 (4 * (wrap64 (1 + t156)))) + bt168.1)) (y171 ++ y165) 150).bind fun bt177 => (if bt177.2 = 0 then (laws_FnFair.j0 k y165 (wrap64 ((wrap64 (4 * (wrap64 (1 + t156)))) + bt168.1)) bt177.1 ((bt177.1.length : Int) != 150)) else (laws_FnFair.j0 k y165 (wrap64 ((wrap64 (4 * (wrap64 (1 + t156)))) + bt168.1)) bt177.1 true))) else (none)))) = some r := by first | (rw [hy165]; with_reducible exact H) | (have H2_ := (Option.bind_some _ _).symm.trans H; rw [hy165]; with_reducible exact H2_) | (have H2_ := (Option.bind_some _ _).symm.trans H; with_reducible exact H2_) | with_reducible exact H | (rw [hy165]; exact H) | exact H
 have Ny165 := Aside0.mk hy165
 clear hy165
 replace H := Option.bind_eq_some_iff.mp H
 obtain ⟨⟨t168, t169, t170⟩, A70, H⟩ := H
 replace H : ((some (([] : List Int) : List Int)).bind fun y171 => (if y171.length + y165.length < 17592186044416 then ((impl_Share.f k (wrap64 (1 + t156)) (wrap64 ((wrap64 (4 * (wrap64 (1 + t156)))) + t168)) (y171 ++ y165) 150).bind fun bt177 => (if bt177.2 = 0 then (laws_FnFair.j0 k y165 (wrap64 ((wrap64 (4 * (wrap64 (1 + t156)))) + t168)) bt177.1 ((bt177.1.length : Int) != 150)) else (laws_FnFair.j0 k y165 (wrap64 ((wrap64 (4 * (wrap64 (1 + t156)))) + t168)) bt177.1 true))) else (none))) = some r := H
 have A7 := Aside0.mk A70
 clear A70
 obtain ⟨y171, hy171⟩ : ∃ y_ : List Int, y_ = (([] : List Int)) := ⟨_, rfl⟩
 replace H : (if y171.length + y165.length < 17592186044416 then ((impl_Share.f k (wrap64 (1 + t156)) (wrap64 ((wrap64 (4 * (wrap64 (1 + t156)))) + t168)) (y171 ++ y165) 150).bind fun bt177 => (if bt177.2 = 0 then (laws_FnFair.j0 k y165 (wrap64 ((wrap64 (4 * (wrap64 (1 + t156)))) + t168)) bt177.1 ((bt177.1.length : Int) != 150)) else (laws_FnFair.j0 k y165 (wrap64 ((wrap64 (4 * (wrap64 (1 + t156)))) + t168)) bt177.1 true))) else (none)) = some r := by first | (rw [hy171]; with_reducible exact H) | (have H2_ := (Option.bind_some _ _).symm.trans H; rw [hy171]; with_reducible exact H2_) | (have H2_ := (Option.bind_some _ _).symm.trans H; with_reducible exact H2_) | with_reducible exact H | (rw [hy171]; exact H) | exact H
 have Ny171 := Aside0.mk hy171
 clear hy171
 by_cases c8 : y171.length + y165.length < 17592186044416
 {
 rw [if_pos c8] at H
 have LMc8 := Aside0.mk c8
 clear c8
 obtain ⟨y174, hy174⟩ : ∃ y_ : List Int, y_ = (y171 ++ y165) := ⟨_, rfl⟩
 replace H : ((impl_Share.f k (wrap64 (1 + t156)) (wrap64 ((wrap64 (4 * (wrap64 (1 + t156)))) + t168)) y174 150).bind fun bt177 => (if bt177.2 = 0 then (laws_FnFair.j0 k y165 (wrap64 ((wrap64 (4 * (wrap64 (1 + t156)))) + t168)) bt177.1 ((bt177.1.length : Int) != 150)) else (laws_FnFair.j0 k y165 (wrap64 ((wrap64 (4 * (wrap64 (1 + t156)))) + t168)) bt177.1 true))) = some r := by first | (rw [hy174]; with_reducible exact H) | (have H2_ := (Option.bind_some _ _).symm.trans H; rw [hy174]; with_reducible exact H2_) | (have H2_ := (Option.bind_some _ _).symm.trans H; with_reducible exact H2_) | with_reducible exact H | (rw [hy174]; exact H) | exact H
 have Ny174 := Aside0.mk hy174
 clear hy174
 replace H := Option.bind_eq_some_iff.mp H
 obtain ⟨⟨t177, t178⟩, A90, H⟩ := H
 replace H : (if t178 = 0 then (laws_FnFair.j0 k y165 (wrap64 ((wrap64 (4 * (wrap64 (1 + t156)))) + t168)) t177 ((t177.length : Int) != 150)) else (laws_FnFair.j0 k y165 (wrap64 ((wrap64 (4 * (wrap64 (1 + t156)))) + t168)) t177 true)) = some r := H
 have A9 := Aside0.mk A90
 clear A90
 have HC10 := Aside0.mk H
 clear H
 go_enter Try.func3, Try.ntmps3
 go_upto_region 8 with (first | ((with_reducible refine gate_callee (f := 14) rfl ?_); refine goesL_ (some 19) rfl rfl Try.func14 (by kernel_rfl) rfl #[.slice A0 l0.length c0, .int .u64 13] rfl wT ?_; (with_reducible refine (laws_lwBegin.calls k _ _ l0 13 t153 t154 _ ?side1 ?side2 A3.out).mono ?_); (case side1 => repeat (first | exact HR0.out | (with_reducible refine Kd.C_alloc ?_ _) | (with_reducible refine Kd.C_drewN ?_ _) | (with_reducible refine Kd.C_drew ?_))); (case side2 => exact HC0.out); rintro e w1001 ⟨rfl, hb⟩; refine ⟨_, rfl, ?_⟩; have n0_ := Aside0.mk (below_step wB hb); clear HB; have HB := n0_; clear n0_; (try clear hb); (try clear hb2); (try clear hk); (try clear hi)) | ((with_reducible refine gate_dst (N := 3) rfl ?_); (try (refine gate_guard (by rfl) ?_; dsimp only)); refine box_event ?hg (N := 3) ?hd (cs := #[.slice none 0 0, .int .i64 0, .int .u64 0]) (t := 25) ?hr ?_; (case hd => rfl); (case hg => rfl); (case hr => first | (go_simp; done) | (go_simp; rfl)); intro gb155 hg w1002 hbox hb; have n0_ := Aside0.mk (below_step wB hb); have n1_ := Aside0.mk (hbox); have n2_ := Aside0.mk ((by rw [hg]; exact (below_size wB) : w.heap.size ≤ gb155)); have n3_ := Aside0.mk ((by rw [hg]; exact (below_size wB) : w.heap.size ≤ gb155)); clear HB; have HB := n0_; have BK155 := n1_; have GW155 := n2_; have GE155 := n3_; clear n0_ n1_ n2_ n3_; clear hb hbox hg; obtain ⟨⟨hcz1003_0, hcz1003_1, hcz1003_2⟩, hfz1003_0, hfz1003_1, hfz1003_2⟩ := cells3 BK155.out) | ((with_reducible refine gate_store (t := 25) (p := 3) rfl ?_); refine store_event (t := 25) (p := 3) (v := ?_) (w1 := (((w1002.setCell ⟨gb155, 0, none⟩ (.slice A0 l0.length c0)).setCell ⟨gb155, 1, none⟩ (.int .i64 t153)).setCell ⟨gb155, 2, none⟩ (.int .u64 t154))) ?hg ?ho ?hn ?hr ?_; (case ho => rfl); (case hg => rfl); (case hn => rfl); (case hr => first | (go_simp; done) | (go_simp; rfl)); intro w1004 hw; have n0_ : Aside0 (w1004.heap[gb155]? = some (.cells #[.slice A0 l0.length c0, .int .i64 t153, .int .u64 t154] 25 (0, 0))) := ⟨(by rw [hw]; exact (by (with_reducible repeat (first | refine blk_drewN ?_ _ | refine blk_drew ?_ | refine blk_alloc ?_ _)); refine blk_put (cs := #[.slice A0 l0.length c0, .int .i64 t153, .int .u64 0]) ?_ 2 _ rfl; (with_reducible repeat (first | refine blk_drewN ?_ _ | refine blk_drew ?_ | refine blk_alloc ?_ _)); refine blk_put (cs := #[.slice A0 l0.length c0, .int .i64 0, .int .u64 0]) ?_ 1 _ rfl; (with_reducible repeat (first | refine blk_drewN ?_ _ | refine blk_drew ?_ | refine blk_alloc ?_ _)); refine blk_put (cs := #[.slice none 0 0, .int .i64 0, .int .u64 0]) ?_ 0 _ rfl; (with_reducible repeat (first | refine blk_drewN ?_ _ | refine blk_drew ?_ | refine blk_alloc ?_ _)); exact BK155.out))⟩; have n1_ : Aside0 (Below w.heap.size w w1004) := ⟨(by rw [hw]; exact wB)⟩; clear hw; clear BK155; clear HB; have BK155 := n0_; have HB := n1_; clear n0_ n1_; have HI155 := Aside0.mk (show IsS25 w w1004 gb155 l0 t153 t154 from ⟨_, _, by (with_reducible repeat (first | refine blk_drewN ?_ _ | refine blk_drew ?_ | refine blk_alloc ?_ _)); exact BK155.out, GW155.out, HR0.out⟩)) | ((with_reducible refine gate_callee (f := 15) rfl ?_); refine goesL_ (some 20) rfl rfl Try.func15 (by kernel_rfl) rfl #[.pointer (some ⟨gb155, 0, none⟩), .int .i64 1500] rfl wT ?_; (with_reducible refine (laws_lwNext.calls gb155 l0 t153 t154 1500 t156 t157 t158 w _ ?side1 ?side2 A4.out).mono ?_); (case side1 => repeat (first | (with_reducible first | exact HI155.out | apply IsS25.alloc | apply IsS25.drewN | apply IsS25.drew | apply IsS25.set_1 | apply IsS25.set_2) | exact HI155.out)); (case side2 => repeat (first | (with_reducible first | exact HB.out | apply below_alloc | apply pw_below_drewN | apply below_drew1 | refine below_set ?_ (IsS25.ge HI155.out)) | exact HB.out)); rintro e w1005 ⟨rfl, hi, hb, hk⟩; refine ⟨_, rfl, ?_⟩; have n0_ := Aside0.mk (hb); have n1_ := Aside0.mk (hi); clear HB; clear HI155; have HB := n0_; have HI155 := n1_; clear n0_ n1_; (try clear hb); (try clear hb2); (try clear hk); (try clear hi)) | ((with_reducible refine gate_callee (f := 15) rfl ?_); refine goesL_ (some 24) rfl rfl Try.func15 (by kernel_rfl) rfl #[.pointer (some ⟨gb155, 0, none⟩), .int .i64 100000] rfl wT ?_; (with_reducible refine (laws_lwNext.calls gb155 l0 t157 t158 100000 t159 t160 t161 w _ ?side1 ?side2 A5.out).mono ?_); (case side1 => repeat (first | (with_reducible first | exact HI155.out | apply IsS25.alloc | apply IsS25.drewN | apply IsS25.drew | apply IsS25.set_1 | apply IsS25.set_2) | exact HI155.out)); (case side2 => repeat (first | (with_reducible first | exact HB.out | apply below_alloc | apply pw_below_drewN | apply below_drew1 | refine below_set ?_ (IsS25.ge HI155.out)) | exact HB.out)); rintro e w1006 ⟨rfl, hi, hb, hk⟩; refine ⟨_, rfl, ?_⟩; have n0_ := Aside0.mk (hb); have n1_ := Aside0.mk (hi); clear HB; clear HI155; have HB := n0_; have HI155 := n1_; clear n0_ n1_; (try clear hb); (try clear hb2); (try clear hk); (try clear hi)) | ((with_reducible refine gate_callee (f := 15) rfl ?_); refine goesL_ (some 28) rfl rfl Try.func15 (by kernel_rfl) rfl #[.pointer (some ⟨gb155, 0, none⟩), .int .i64 100000] rfl wT ?_; (with_reducible refine (laws_lwNext.calls gb155 l0 t160 t161 100000 t162 t163 t164 w _ ?side1 ?side2 A6.out).mono ?_); (case side1 => repeat (first | (with_reducible first | exact HI155.out | apply IsS25.alloc | apply IsS25.drewN | apply IsS25.drew | apply IsS25.set_1 | apply IsS25.set_2) | exact HI155.out)); (case side2 => repeat (first | (with_reducible first | exact HB.out | apply below_alloc | apply pw_below_drewN | apply below_drew1 | refine below_set ?_ (IsS25.ge HI155.out)) | exact HB.out)); rintro e w1007 ⟨rfl, hi, hb, hk⟩; refine ⟨_, rfl, ?_⟩; have n0_ := Aside0.mk (hb); have n1_ := Aside0.mk (hi); clear HB; clear HI155; have HB := n0_; have HI155 := n1_; clear n0_ n1_; (try clear hb); (try clear hb2); (try clear hk); (try clear hi)) | ((with_reducible refine gate_dst (N := 30) rfl ?_); (try (refine gate_guard (by rfl) ?_; dsimp only)); refine Kd.R_lit (Kd.int .i64) _ 2 ?hg (N := 30) ?hd (xs := ([wrap64 ((wrap64 (2 * (wrap64 (1 + t156)))) + t159), wrap64 ((wrap64 (2 * (wrap64 (1 + t156)))) + t162)] : List Int)) (inner := [.int .i64 (wrap64 ((wrap64 (2 * (wrap64 (1 + t156)))) + t159)), .int .i64 (wrap64 ((wrap64 (2 * (wrap64 (1 + t156)))) + t162))]) (ok := fun _ => True) (okp := fun _ => True) ?hr ?hp (fun _ hk => hk) trivial (Below.refl _ _) (Nat.le_refl _) (by simp) ?_; (case hd => rfl); (case hg => rfl); (case hr => first | (go_simp; done) | (go_simp; rfl)); (case hp => exact (Reps.one (show Kd.M (Kd.int .i64) _ _ _ (wrap64 ((wrap64 (2 * (wrap64 (1 + t156)))) + t159)) [.int .i64 (wrap64 ((wrap64 (2 * (wrap64 (1 + t156)))) + t159))] from rfl) (Reps.one (show Kd.M (Kd.int .i64) _ _ _ (wrap64 ((wrap64 (2 * (wrap64 (1 + t156)))) + t162)) [.int .i64 (wrap64 ((wrap64 (2 * (wrap64 (1 + t156)))) + t162))] from rfl) (Reps.none _ _)))); intro v166 w1008 ho1009 hb hg_ hnew_; clear hg_ hnew_; (first | rw [← Ny165.out] at ho1009 | (simp only [Int.reduceToNat] at ho1009; rw [← Ny165.out] at ho1009)); have n0_ := Aside0.mk (Kd.R_lower ho1009 (below_size (by repeat (first | (with_reducible first | exact HB.out | apply below_alloc | apply pw_below_drewN | apply below_drew1 | refine below_set ?_ (IsS25.ge HI155.out)) | exact HB.out)))); have n1_ := Aside0.mk (IsS25.below (by repeat (first | (with_reducible first | exact HI155.out | apply IsS25.alloc | apply IsS25.drewN | apply IsS25.drew | apply IsS25.set_1 | apply IsS25.set_2) | exact HI155.out)) hb); have n2_ := Aside0.mk (below_step (by repeat (first | (with_reducible first | exact HB.out | apply below_alloc | apply pw_below_drewN | apply below_drew1 | refine below_set ?_ (IsS25.ge HI155.out)) | exact HB.out)) hb); clear HI155; clear HB; have HO167 := n0_; have HI155 := n1_; have HB := n2_; clear n0_ n1_ n2_; clear hb ho1009) | ((with_reducible refine gate_callee (f := 15) rfl ?_); refine goesL_ (some 33) rfl rfl Try.func15 (by kernel_rfl) rfl #[.pointer (some ⟨gb155, 0, none⟩), .int .i64 150000] rfl wT ?_; (with_reducible refine (laws_lwNext.calls gb155 l0 t163 t164 150000 t168 t169 t170 w _ ?side1 ?side2 A7.out).mono ?_); (case side1 => repeat (first | (with_reducible first | exact HI155.out | apply IsS25.alloc | apply IsS25.drewN | apply IsS25.drew | apply IsS25.set_1 | apply IsS25.set_2) | exact HI155.out)); (case side2 => repeat (first | (with_reducible first | exact HB.out | apply below_alloc | apply pw_below_drewN | apply below_drew1 | refine below_set ?_ (IsS25.ge HI155.out)) | exact HB.out)); rintro e w1010 ⟨rfl, hi, hb, hk⟩; refine ⟨_, rfl, ?_⟩; have n0_ := Aside0.mk (Kd.R_mono (Kd.R_keep (IsS25.apart (show IsS25 w _ gb155 l0 t163 t164 from by repeat (first | (with_reducible first | exact HI155.out | apply IsS25.alloc | apply IsS25.drewN | apply IsS25.drew | apply IsS25.set_1 | apply IsS25.set_2) | exact HI155.out)) (Rh HO167) (by decide)) hk (fun _ h => h.2)) (fun _ h => h.1)); have n1_ := Aside0.mk (hb); have n2_ := Aside0.mk (hi); clear HO167; clear HB; clear HI155; have HO167 := n0_; have HB := n1_; have HI155 := n2_; clear n0_ n1_ n2_; (try clear hb); (try clear hb2); (try clear hk); (try clear hi)) | ((with_reducible refine gate_dst (N := 38) rfl ?_); (try (refine gate_guard (by rfl) ?_; dsimp only)); refine Kd.R_lit (Kd.int .i64) _ 2 ?hg (N := 38) ?hd (xs := ([] : List Int)) (inner := []) (ok := fun _ => True) (okp := fun _ => True) ?hr ?hp (fun _ hk => hk) trivial (Below.refl _ _) (Nat.le_refl _) (by simp) ?_; (case hd => rfl); (case hg => rfl); (case hr => first | (go_simp; done) | (go_simp; rfl)); (case hp => exact (Reps.none _ _)); intro v172 w1011 ho1012 hb hg_ hnew_; clear hg_ hnew_; (first | rw [← Ny171.out] at ho1012 | (simp only [Int.reduceToNat] at ho1012; rw [← Ny171.out] at ho1012)); have n0_ := Aside0.mk (Kd.R_elder' (Rh HO167) (Kd.R_base ho1012) hb); have n1_ := Aside0.mk (Kd.R_lower (Kd.R_new' ho1012 (Kd.R_lt (Rh HO167))) (below_size (by repeat (first | (with_reducible first | exact HB.out | apply below_alloc | apply pw_below_drewN | apply below_drew1 | refine below_set ?_ (IsS25.ge HI155.out)) | exact HB.out)))); have n2_ := Aside0.mk (IsS25.below (by repeat (first | (with_reducible first | exact HI155.out | apply IsS25.alloc | apply IsS25.drewN | apply IsS25.drew | apply IsS25.set_1 | apply IsS25.set_2) | exact HI155.out)) hb); have n3_ := Aside0.mk (below_step (by repeat (first | (with_reducible first | exact HB.out | apply below_alloc | apply pw_below_drewN | apply below_drew1 | refine below_set ?_ (IsS25.ge HI155.out)) | exact HB.out)) hb); clear HO167; clear HI155; clear HB; have HO167 := n0_; have HO173 := n1_; have HI155 := n2_; have HB := n3_; clear n0_ n1_ n2_ n3_; clear hb ho1012; obtain ⟨Ao1014, co1014, eo1014⟩ := Kd.R_slice HO167.out; subst eo1014) | ((with_reducible refine gate_builtin (b := .append) (xs := #[.tmp 38, .tmp 39]) rfl ?_); (try (refine gate_guard (by rfl) ?_; dsimp only)); at_builtin; refine Kd.R_append_rows (Kd.int .i64) (w0 := w) w.heap.size rfl (.tmp 38) (.tmp 39) 29 2 (.int .i64 0) 8 rfl Try.underlying29 info2 rfl (by decide) (by omega) v172 y171 y165 _ _ _ (fun k_ => some k_ ≠ (.slice Ao1014 y165.length co1014 : Value).ownBlock) (fun _ => False) rfl rfl ?aO ?aR (fun _ _ h => h) (fun _ h => h.elim) ?aF ?aB ?aS ?aL ?_; (case aR => exact Ch HO167); (case aB => exact (by repeat (first | (with_reducible first | exact HB.out | apply below_alloc | apply pw_below_drewN | apply below_drew1 | refine below_set ?_ (IsS25.ge HI155.out)) | exact HB.out))); (case aF => exact (fun k_ hk => Kd.fresh' (Kd.R_lt (Rh HO167)) k_ hk)); (case aO => exact (Kd.R_mono (Rh HO173) (fun _ hk => hk.2))); (case aS => exact (below_size (by repeat (first | (with_reducible first | exact HB.out | apply below_alloc | apply pw_below_drewN | apply below_drew1 | refine below_set ?_ (IsS25.ge HI155.out)) | exact HB.out)))); (case aL => have := LMc8.out; omega); intro v175 w1013 ho hb hg hat; rw [← Ny174.out] at ho; have n0_ := Aside0.mk (IsS25.grown (by repeat (first | (with_reducible first | exact HI155.out | apply IsS25.alloc | apply IsS25.drewN | apply IsS25.drew | apply IsS25.set_1 | apply IsS25.set_2) | exact HI155.out)) hg (IsS25.own_ne HI155.out HO173.out (by decide))); have n1_ := Aside0.mk (Kd.R_after (ok := (fun _ => True)) (Rh HO167) hg hat); have n2_ := Aside0.mk (hb); have n3_ := Aside0.mk (ho); clear HI155; clear HO167; clear HB; clear HO173; have HI155 := n0_; have HO167 := n1_; have HB := n2_; have HO176 := n3_; clear n0_ n1_ n2_ n3_; clear ho hb hg hat; obtain ⟨Ao1015, co1015, eo1015⟩ := Kd.R_slice HO176.out; subst eo1015) | ((with_reducible refine gate_callee (f := 16) rfl ?_); refine goesL_ (some 41) rfl rfl Try.func16 (by kernel_rfl) rfl #[.int .i64 (wrap64 (1 + t156)), .int .i64 (wrap64 ((wrap64 (4 * (wrap64 (1 + t156)))) + t168)), .slice Ao1015 y174.length co1015, .int .i64 150] rfl wT ?_; (with_reducible refine (impl_Share.calls k (wrap64 (1 + t156)) (wrap64 ((wrap64 (4 * (wrap64 (1 + t156)))) + t168)) _ _ y174 150 t177 t178 _ ?side1 ?side2 A9.out).mono ?_); (case side1 => exact Ch HO176); (case side2 => exact (Kd.R_reads' HO176.out).2.1); rintro e w1016 ⟨v179, rfl, ho0, hb⟩; refine ⟨_, rfl, ?_⟩; have n0_ := Aside0.mk (Kd.R_below (Rh HO167) hb); have n1_ := Aside0.mk (Kd.R_below (Rh HO176) hb); have n2_ := Aside0.mk (Kd.S_lower (Kd.S_new' (Kd.S_new' ho0 (Kd.R_lt (Rh HO167))) (Kd.R_lt (Rh HO176))) (below_size (by repeat (first | (with_reducible first | exact HB.out | apply below_alloc | apply pw_below_drewN | apply below_drew1 | refine below_set ?_ (IsS25.ge HI155.out)) | exact HB.out)))); have n3_ := Aside0.mk (IsS25.below (by repeat (first | (with_reducible first | exact HI155.out | apply IsS25.alloc | apply IsS25.drewN | apply IsS25.drew | apply IsS25.set_1 | apply IsS25.set_2) | exact HI155.out)) hb); have n4_ := Aside0.mk (below_step (by repeat (first | (with_reducible first | exact HB.out | apply below_alloc | apply pw_below_drewN | apply below_drew1 | refine below_set ?_ (IsS25.ge HI155.out)) | exact HB.out)) hb); clear HO167; clear HO176; clear HI155; clear HB; have HO167 := n0_; have HO176 := n1_; have HO180 := n2_; have HI155 := n3_; have HB := n4_; clear n0_ n1_ n2_ n3_ n4_; (try clear hb); (try clear hb2); (try clear hk); (try clear hi); (try clear ho0)))
 (try simp only [Act.put, List.setIfInBounds_toArray, List.set_cons_zero, List.set_cons_succ])
 go_cut [50] (fun v50 wc => ∃ (kq : Nat) (x50_9 : Bool), v50 = .bool x50_9 ∧ Aside0 (laws_FnFair.j0 kq y165 (wrap64 ((wrap64 (4 * (wrap64 (1 + t156)))) + t168)) t177 x50_9 = some r) ∧ Aside0 (kq ≤ k) ∧ Aside0 (Kd.R (Kd.int .i64) 2 wc w.heap.size (fun _ => True) (.slice Ao1014 y165.length co1014) y165) ∧ Aside0 (Kd.S k35 35 wc w.heap.size (fun k_ => some k_ ≠ ((.slice Ao1014 y165.length co1014) : Value).ownBlock) v179 t177) ∧ Aside0 (Below w.heap.size w wc))
 case first => (
 have H := HC10.out
 clear HC10
 by_cases c1017 : t178 = 0
 {
 rw [if_pos c1017] at H
 have c1017b0 : (t178 == 0) = true := beq_iff_eq.mpr c1017
 have c1017b1 : (t178 != 0) = false := bne_eq_false_iff_eq.mpr c1017
 clear c1017
 (first | rw [c1017b0] | (simp only [i64_w, i32_w]; rw [c1017b0]) | skip)
 have H' := Aside0.mk H
 clear H
 obtain ⟨Ao2001, co2001, eo2001⟩ := Kd.S_slice HO180.out
 subst eo2001
 go_wp2
 all_goals (try (rename_i h_; exfalso; cases h_; done))
 all_goals (try (rename_i h_ h2_; exfalso; cases h_; done))
 go_meet
 case rel => exact ⟨_, (((t177.length : Int) != 150)), (by first | rfl | (simp; done) | (simp [*]; done)), H', ⟨by first | omega | exact Nat.le_refl _⟩, ⟨Kd.R_mono (Rh HO167) (fun _ hk => trivial)⟩, ⟨Kd.S_mono (Sh HO180) (fun _ hk => hk.1.2)⟩, ⟨by repeat (first | (with_reducible first | exact HB.out | apply below_alloc | apply pw_below_drewN | apply below_drew1 | refine below_set ?_ (IsS25.ge HI155.out)) | exact HB.out)⟩⟩
 }
 {
 rw [if_neg c1017] at H
 have c1017b0 : (t178 == 0) = false := beq_eq_false_iff_ne.mpr c1017
 have c1017b1 : (t178 != 0) = true := bne_iff_ne.mpr c1017
 (first | rw [c1017b0] | (simp only [i64_w, i32_w]; rw [c1017b0]) | skip)
 have H' := Aside0.mk H
 clear H
 go_wp2
 all_goals (try (rename_i h_; exfalso; cases h_; done))
 all_goals (try (rename_i h_ h2_; exfalso; cases h_; done))
 go_meet
 case rel => exact ⟨_, (true), (by first | rfl | (simp; done) | (simp [*]; done)), H', ⟨by first | omega | exact Nat.le_refl _⟩, ⟨Kd.R_mono (Rh HO167) (fun _ hk => trivial)⟩, ⟨Kd.S_mono (Sh HO180) (fun _ hk => hk.1.2)⟩, ⟨by repeat (first | (with_reducible first | exact HB.out | apply below_alloc | apply pw_below_drewN | apply below_drew1 | refine below_set ?_ (IsS25.ge HI155.out)) | exact HB.out)⟩⟩
 }
 )
 case rest => (
 clear HC10
 try clear c0
 try clear c2
 try clear c2b0
 try clear c2b1
 try clear p2
 try clear c8
 try clear c1017
 try clear c1017b0
 try clear c1017b1
 try clear hcz1003_0 hcz1003_1 hcz1003_2 hfz1003_0 hfz1003_1 hfz1003_2
 obtain ⟨kq, x50_9, rfl, HA, HJ9, HO_5, HO_7, HB⟩ := hcut
 cases kq with
 | zero => exact absurd HA.out (by simp [laws_FnFair.j0])
 | succ kj9 => {
 have H := HA.out
 clear HA
 simp only [laws_FnFair.j0] at H
 by_cases c1018 : x50_9 = true
 {
 subst c1018
 have H1 : (some false) = some r := by rw [if_pos rfl] at H; exact H
 clear H
 have H := H1
 clear H1
 obtain rfl := Option.some.inj H
 go_wp2
 all_goals (try (rename_i h_; exfalso; cases h_; done))
 all_goals (try (rename_i h_ h2_; exfalso; cases h_; done))
 go_ret
 exact ⟨by first | rfl | (simp [errW_none, errW_some] <;> rfl) | (simp [*, errW_none, errW_some] <;> rfl), wB⟩
 }
 {
 replace c1018 := Bool.eq_false_iff.mpr c1018
 subst c1018
 have H1 : (if 0 < (y165.length : Int) then (if 1 < (y165.length : Int) then ((laws_lwAway.f (rd y165 0) (rd y165 1)).bind fun t183 => (laws_FnFair.l0 kj9 (wrap64 ((wrap64 (4 * (wrap64 (1 + t156)))) + t168)) t177 (rd y165 0) (rd y165 1) t183 0)) else (none)) else (none)) = some r := by rw [if_neg (show ¬ (false = true) by decide)] at H; exact H
 clear H
 have H := H1
 clear H1
 by_cases c1019 : 0 < (y165.length : Int)
 {
 rw [if_pos c1019] at H
 have c1019b0 : decide (0 < (y165.length : Int)) = true := decide_eq_true c1019
 have c1019b1 : decide (0 < y165.length) = true := decide_eq_true (by omega)
 clear c1019
 by_cases c1020 : 1 < (y165.length : Int)
 {
 rw [if_pos c1020] at H
 have c1020b0 : decide (1 < (y165.length : Int)) = true := decide_eq_true c1020
 have c1020b1 : decide (1 < y165.length) = true := decide_eq_true (by omega)
 clear c1020
 replace H := Option.bind_eq_some_iff.mp H
 obtain ⟨t183, A10210, H⟩ := H
 replace H : (laws_FnFair.l0 kj9 (wrap64 ((wrap64 (4 * (wrap64 (1 + t156)))) + t168)) t177 (rd y165 0) (rd y165 1) t183 0) = some r := H
 have A1021 := Aside0.mk A10210
 clear A10210
 have H' := Aside0.mk H
 clear H
 have p181 : 0 ≤ (0 : Int) := (by omega)
 have q181 : 0 < (y165.length : Int) := of_decide_eq_true (by first | (with_reducible assumption) | assumption)
 obtain ⟨ad181, e181, hx181_0⟩ := Kd.at_int (Kd.R_reads' HO_5.out).2.2 0 p181 q181
 cases e181
 have qi181 : (0 < y165.length) = True := eq_true (by omega)
 (try rw [show ((0 : Int)).toNat = 0 from rfl] at hx181_0)
 (try rw [Addr.add_zero'] at hx181_0)
 replace p181 := eq_true p181
 replace q181 := eq_true q181
 have p182 : 0 ≤ (1 : Int) := (by omega)
 have q182 : 1 < (y165.length : Int) := of_decide_eq_true (by first | (with_reducible assumption) | assumption)
 obtain ⟨ad182, e182, hx182_0⟩ := Kd.at_int (Kd.R_reads' HO_5.out).2.2 1 p182 q182
 obtain rfl : ad181 = ad182 := (by injection e182)
 (try simp only [show (1 : Int).toNat = 1 from rfl, Nat.reduceMul, Nat.reduceEqDiff, Go.Addr.add, ↓reduceIte] at hx182_0)
 have qi182 : (1 < y165.length) = True := eq_true (by omega)
 (try rw [show ((1 : Int)).toNat = 1 from rfl] at hx182_0)
 replace p182 := eq_true p182
 replace q182 := eq_true q182
 go_wp2_with (first | ((with_reducible refine gate_callee (f := 17) rfl ?_); refine goesL_ (some 59) rfl rfl Try.func17 (by kernel_rfl) rfl #[.int .i64 (rd y165 0), .int .i64 (rd y165 1)] rfl wT ?_; (with_reducible refine (laws_lwAway.calls (rd y165 0) (rd y165 1) t183 _ A1021.out).mono ?_); rintro e w' ⟨rfl, ⟨nd, rfl⟩⟩; refine ⟨_, rfl, ?_⟩))
 all_goals (try (rename_i h_; exfalso; cases h_; done))
 all_goals (try (rename_i h_ h2_; exfalso; cases h_; done))
 go_loopg [9, 10, 11, 12] kj9 (fun kq v9 v10 v11 v12 w' => ∃ (x9_2 : Int) (x10_2 : Int) (x11_2 : Int) (x12_2 : Int), v9 = .int .i64 x9_2 ∧ v10 = .int .i64 x10_2 ∧ v11 = .int .i64 x11_2 ∧ v12 = .int .i64 x12_2 ∧ Aside0 (laws_FnFair.l0 kq (wrap64 ((wrap64 (4 * (wrap64 (1 + t156)))) + t168)) t177 x9_2 x10_2 x11_2 x12_2 = some r) ∧ Aside0 (kq ≤ kj9) ∧ Aside0 (Kd.S k35 35 w' w.heap.size (fun _ => True) v179 t177) ∧ Aside0 (Below w.heap.size w w'))
 case atStart => exact ⟨(rd y165 0), (rd y165 1), (t183), (0), (by first | rfl | (simp; done) | (simp [*]; done)), (by first | rfl | (simp; done) | (simp [*]; done)), (by first | rfl | (simp; done) | (simp [*]; done)), (by first | rfl | (simp; done) | (simp [*]; done)), H', ⟨Nat.le_refl _⟩, ⟨Kd.S_mono (Sh HO_7) (fun _ hk => trivial)⟩, ⟨wB⟩⟩
 case round => (
 clear H'
 try clear c0
 try clear c2
 try clear c2b0
 try clear c2b1
 try clear p2
 try clear c8
 try clear p181
 try clear q181
 try clear hx181
 try clear qi181
 try clear p182
 try clear q182
 try clear hx182
 try clear qi182
 try clear c1017
 try clear c1017b0
 try clear c1017b1
 try clear c1018
 try clear c1019
 try clear c1019b0
 try clear c1019b1
 try clear c1020
 try clear c1020b0
 try clear c1020b1
 try clear hcz1003_0 hcz1003_1 hcz1003_2 hfz1003_0 hfz1003_1 hfz1003_2
 try clear hx181_0
 try clear hx182_0
 try clear p181
 try clear p182
 try clear p2
 try clear q181
 try clear q182
 obtain ⟨x9_2, x10_2, x11_2, x12_2, rfl, rfl, rfl, rfl, HA, HK2, HO_7, HB⟩ := hrel
 cases gk with
 | zero => exact absurd HA.out (by simp [laws_FnFair.l0])
 | succ k2 => {
 have H := HA.out
 clear HA
 simp only [laws_FnFair.l0] at H
 by_cases c2001 : x12_2 < (t177.length : Int)
 {
 rw [if_pos c2001] at H
 have c2001b0 : decide (x12_2 < (t177.length : Int)) = true := decide_eq_true c2001
 clear c2001
 have HC2002 := Aside0.mk H
 clear H
 obtain ⟨Ao3001, co3001, eo3001⟩ := Kd.S_slice HO_7.out
 subst eo3001
 go_upto_region 16 with (fail)
 go_cut [85] (fun v85 wc => ∃ (kq : Nat) (x85_2001 : Bool), v85 = .bool x85_2001 ∧ Aside0 (laws_FnFair.j2 kq (wrap64 ((wrap64 (4 * (wrap64 (1 + t156)))) + t168)) t177 x9_2 x10_2 x11_2 x12_2 x85_2001 = some r) ∧ Aside0 (kq ≤ k2) ∧ Aside0 (Kd.S k35 35 wc w.heap.size (fun _ => True) (.slice Ao3001 t177.length co3001) t177) ∧ Aside0 (Below w.heap.size w wc))
 case first => (
 have H := HC2002.out
 clear HC2002
 by_cases c3002 : 0 ≤ x12_2
 rw [if_pos c3002] at H
 have c3002b0 : decide (0 ≤ x12_2) = true := decide_eq_true c3002
 clear c3002
 (first | rw [c3002b0] | (simp only [i64_w, i32_w]; rw [c3002b0]) | skip)
 by_cases c3003 : (((rd_T35 t177 x12_2).f1).length : Int) = 2
 rw [if_pos c3003] at H
 have c3003b0 : ((((rd_T35 t177 x12_2).f1).length : Int) == 2) = true := beq_iff_eq.mpr c3003
 have c3003b1 : ((((rd_T35 t177 x12_2).f1).length : Int) != 2) = false := bne_eq_false_iff_eq.mpr c3003
 clear c3003
 have H' := Aside0.mk H
 clear H
 rotate_left
 rw [if_neg c3003] at H
 have c3003b0 : ((((rd_T35 t177 x12_2).f1).length : Int) == 2) = false := beq_eq_false_iff_ne.mpr c3003
 have c3003b1 : ((((rd_T35 t177 x12_2).f1).length : Int) != 2) = true := bne_iff_ne.mpr c3003
 have H' := Aside0.mk H
 clear H
 rotate_left
 rw [if_neg c3002] at H
 exact absurd H (by simp)
 all_goals (
 have p184 : 0 ≤ (x12_2 : Int) := of_decide_eq_true (by first | (with_reducible assumption) | assumption)
 have q184 : x12_2 < (t177.length : Int) := of_decide_eq_true (by first | (with_reducible assumption) | assumption)
 obtain ⟨ad184, A184_1, c184_1, e184, hx184_0, hx184_1, hl184_1, hi184_1⟩ := at_T35 (Kd.S_reads' HO_7.out).2.2 x12_2 p184 q184
 cases e184
 obtain ⟨ce184, hce184, hMe184, hcc184⟩ := Kd.S_get HO_7.out z35 x12_2 p184 (by first | exact q184 | exact of_decide_eq_true (by first | (with_reducible assumption) | assumption) | (have e_ := (Kd.S_reads' HO_7.out).1; omega))
 obtain ⟨ve184_1, rfl, ge184_1⟩ := k35_openM hMe184
 have hv184_1 := hcc184 1 _ rfl
 rw [add_field _ _ 1 (by omega)] at hv184_1
 replace hv184_1 := Option.some.inj (hv184_1.symm.trans hx184_1)
 rw [hv184_1] at ge184_1
 have HL184_1 := Aside0.mk (show Kd.R (Kd.int .i64) 2 _ _ _ _ ((rd_T35 t177 x12_2).f1) from ge184_1)
 clear hv184_1 ge184_1
 clear hcc184 hce184
 have HR184_1 := Aside0.mk hi184_1
 have HC184_1 := Aside0.mk hl184_1
 clear hi184_1 hl184_1
 replace p184 := eq_true p184
 replace q184 := eq_true q184
 )
 {
 have p185 : 0 ≤ (x12_2 : Int) := of_decide_eq_true (by first | (with_reducible assumption) | assumption)
 have q185 : x12_2 < (t177.length : Int) := of_decide_eq_true (by first | (with_reducible assumption) | assumption)
 obtain ⟨ad185, A185_1, c185_1, e185, hx185_0, hx185_1, hl185_1, hi185_1⟩ := at_T35 (Kd.S_reads' HO_7.out).2.2 x12_2 p185 q185
 obtain rfl : ad184 = ad185 := (by injection e185)
 obtain ⟨ce185, hce185, hMe185, hcc185⟩ := Kd.S_get HO_7.out z35 x12_2 p185 (by first | exact q185 | exact of_decide_eq_true (by first | (with_reducible assumption) | assumption) | (have e_ := (Kd.S_reads' HO_7.out).1; omega))
 obtain ⟨ve185_1, rfl, ge185_1⟩ := k35_openM hMe185
 have hv185_1 := hcc185 1 _ rfl
 rw [add_field _ _ 1 (by omega)] at hv185_1
 replace hv185_1 := Option.some.inj (hv185_1.symm.trans hx185_1)
 rw [hv185_1] at ge185_1
 have HL185_1 := Aside0.mk (show Kd.R (Kd.int .i64) 2 _ _ _ _ ((rd_T35 t177 x12_2).f1) from ge185_1)
 clear hv185_1 ge185_1
 clear hcc185 hce185
 have HR185_1 := Aside0.mk hi185_1
 have HC185_1 := Aside0.mk hl185_1
 clear hi185_1 hl185_1
 replace p185 := eq_true p185
 replace q185 := eq_true q185
 have ea_ := Option.some.inj (hx184_1.symm.trans hx185_1)
 injection ea_ with ea_ en_ ec_
 subst ea_
 subst ec_
 clear en_
 go_wp2
 all_goals (try (rename_i h_; exfalso; cases h_; done))
 all_goals (try (rename_i h_ h2_; exfalso; cases h_; done))
 go_meet
 case rel => exact ⟨_, ((((rd_T35 t177 x12_2).f0) != (decide ((wrap64 (x9_2 + x10_2)) > (wrap64 ((wrap64 (4 * (wrap64 (1 + t156)))) + t168)))))), (by first | rfl | (simp; done) | (simp [*]; done)), H', ⟨by have := HJ9.out; have := HK2.out; first | omega | exact Nat.le_refl _⟩, ⟨Sh HO_7⟩, ⟨wB⟩⟩
 }
 {
 go_wp2
 all_goals (try (rename_i h_; exfalso; cases h_; done))
 all_goals (try (rename_i h_ h2_; exfalso; cases h_; done))
 go_meet
 case rel => exact ⟨_, (true), (by first | rfl | (simp; done) | (simp [*]; done)), H', ⟨by have := HJ9.out; have := HK2.out; first | omega | exact Nat.le_refl _⟩, ⟨Sh HO_7⟩, ⟨wB⟩⟩
 }
 )
 case rest => (
 clear HC2002
 try clear c0
 try clear c2
 try clear c2b0
 try clear c2b1
 try clear p2
 try clear c8
 try clear p181
 try clear q181
 try clear hx181
 try clear qi181
 try clear p182
 try clear q182
 try clear hx182
 try clear qi182
 try clear c184
 try clear p184
 try clear q184
 try clear hx184
 try clear c185
 try clear p185
 try clear q185
 try clear hx185
 try clear c1017
 try clear c1017b0
 try clear c1017b1
 try clear c1018
 try clear c1019
 try clear c1019b0
 try clear c1019b1
 try clear c1020
 try clear c1020b0
 try clear c1020b1
 try clear c2001
 try clear c2001b0
 try clear c3002
 try clear c3002b0
 try clear c3003
 try clear c3003b0
 try clear c3003b1
 try clear hcz1003_0 hcz1003_1 hcz1003_2 hfz1003_0 hfz1003_1 hfz1003_2
 try clear hx181_0
 try clear hx182_0
 try clear hx184_0
 try clear hx184_1
 try clear hx185_0
 try clear hx185_1
 try clear p181
 try clear p182
 try clear p184
 try clear p185
 try clear p2
 try clear q181
 try clear q182
 try clear q184
 try clear q185
 obtain ⟨kq, x85_2001, rfl, HA, HJ2001, HO_7, HB⟩ := hcut
 cases kq with
 | zero => exact absurd HA.out (by simp [laws_FnFair.j2])
 | succ kj2001 => {
 have H := HA.out
 clear HA
 simp only [laws_FnFair.j2] at H
 by_cases c3004 : x85_2001 = true
 {
 subst c3004
 have H1 : (some false) = some r := by rw [if_pos rfl] at H; exact H
 clear H
 have H := H1
 clear H1
 obtain rfl := Option.some.inj H
 go_wp2
 all_goals (try (rename_i h_; exfalso; cases h_; done))
 all_goals (try (rename_i h_ h2_; exfalso; cases h_; done))
 go_ret
 exact ⟨by first | rfl | (simp [errW_none, errW_some] <;> rfl) | (simp [*, errW_none, errW_some] <;> rfl), wB⟩
 }
 {
 replace c3004 := Bool.eq_false_iff.mpr c3004
 subst c3004
 have H1 : ((laws_lwAway.f x9_2 x10_2).bind fun t186 => (if 0 ≤ x12_2 then (if x12_2 < (t177.length : Int) then (if 0 < (((rd_T35 t177 x12_2).f1).length : Int) then (if 1 < (((rd_T35 t177 x12_2).f1).length : Int) then ((laws_lwAway.f (rd ((rd_T35 t177 x12_2).f1) 0) (rd ((rd_T35 t177 x12_2).f1) 1)).bind fun t191 => (if t191 > t186 then (laws_FnFair.j3 kj2001 (wrap64 ((wrap64 (4 * (wrap64 (1 + t156)))) + t168)) t177 (rd ((rd_T35 t177 x12_2).f1) 0) (rd ((rd_T35 t177 x12_2).f1) 1) x11_2 x12_2 t191 true) else (if (rd_T35 t177 x12_2).f0 = true then (laws_FnFair.j3 kj2001 (wrap64 ((wrap64 (4 * (wrap64 (1 + t156)))) + t168)) t177 (rd ((rd_T35 t177 x12_2).f1) 0) (rd ((rd_T35 t177 x12_2).f1) 1) x11_2 x12_2 t191 (decide (t191 > (wrap64 (Int.tdiv (wrap64 (t186 + 1)) 2))))) else (laws_FnFair.j3 kj2001 (wrap64 ((wrap64 (4 * (wrap64 (1 + t156)))) + t168)) t177 (rd ((rd_T35 t177 x12_2).f1) 0) (rd ((rd_T35 t177 x12_2).f1) 1) x11_2 x12_2 t191 false)))) else (none)) else (none)) else (none)) else (none))) = some r := by rw [if_neg (show ¬ (false = true) by decide)] at H; exact H
 clear H
 have H := H1
 clear H1
 replace H := Option.bind_eq_some_iff.mp H
 obtain ⟨t186, A30050, H⟩ := H
 replace H : (if 0 ≤ x12_2 then (if x12_2 < (t177.length : Int) then (if 0 < (((rd_T35 t177 x12_2).f1).length : Int) then (if 1 < (((rd_T35 t177 x12_2).f1).length : Int) then ((laws_lwAway.f (rd ((rd_T35 t177 x12_2).f1) 0) (rd ((rd_T35 t177 x12_2).f1) 1)).bind fun t191 => (if t191 > t186 then (laws_FnFair.j3 kj2001 (wrap64 ((wrap64 (4 * (wrap64 (1 + t156)))) + t168)) t177 (rd ((rd_T35 t177 x12_2).f1) 0) (rd ((rd_T35 t177 x12_2).f1) 1) x11_2 x12_2 t191 true) else (if (rd_T35 t177 x12_2).f0 = true then (laws_FnFair.j3 kj2001 (wrap64 ((wrap64 (4 * (wrap64 (1 + t156)))) + t168)) t177 (rd ((rd_T35 t177 x12_2).f1) 0) (rd ((rd_T35 t177 x12_2).f1) 1) x11_2 x12_2 t191 (decide (t191 > (wrap64 (Int.tdiv (wrap64 (t186 + 1)) 2))))) else (laws_FnFair.j3 kj2001 (wrap64 ((wrap64 (4 * (wrap64 (1 + t156)))) + t168)) t177 (rd ((rd_T35 t177 x12_2).f1) 0) (rd ((rd_T35 t177 x12_2).f1) 1) x11_2 x12_2 t191 false)))) else (none)) else (none)) else (none)) else (none)) = some r := H
 have A3005 := Aside0.mk A30050
 clear A30050
 by_cases c3006 : 0 ≤ x12_2
 {
 rw [if_pos c3006] at H
 have c3006b0 : decide (0 ≤ x12_2) = true := decide_eq_true c3006
 clear c3006
 by_cases c3007 : x12_2 < (t177.length : Int)
 {
 rw [if_pos c3007] at H
 have c3007b0 : decide (x12_2 < (t177.length : Int)) = true := decide_eq_true c3007
 clear c3007
 by_cases c3008 : 0 < (((rd_T35 t177 x12_2).f1).length : Int)
 {
 rw [if_pos c3008] at H
 have c3008b0 : decide (0 < (((rd_T35 t177 x12_2).f1).length : Int)) = true := decide_eq_true c3008
 have c3008b1 : decide (0 < ((rd_T35 t177 x12_2).f1).length) = true := decide_eq_true (by omega)
 clear c3008
 by_cases c3009 : 1 < (((rd_T35 t177 x12_2).f1).length : Int)
 {
 rw [if_pos c3009] at H
 have c3009b0 : decide (1 < (((rd_T35 t177 x12_2).f1).length : Int)) = true := decide_eq_true c3009
 have c3009b1 : decide (1 < ((rd_T35 t177 x12_2).f1).length) = true := decide_eq_true (by omega)
 clear c3009
 replace H := Option.bind_eq_some_iff.mp H
 obtain ⟨t191, A30100, H⟩ := H
 replace H : (if t191 > t186 then (laws_FnFair.j3 kj2001 (wrap64 ((wrap64 (4 * (wrap64 (1 + t156)))) + t168)) t177 (rd ((rd_T35 t177 x12_2).f1) 0) (rd ((rd_T35 t177 x12_2).f1) 1) x11_2 x12_2 t191 true) else (if (rd_T35 t177 x12_2).f0 = true then (laws_FnFair.j3 kj2001 (wrap64 ((wrap64 (4 * (wrap64 (1 + t156)))) + t168)) t177 (rd ((rd_T35 t177 x12_2).f1) 0) (rd ((rd_T35 t177 x12_2).f1) 1) x11_2 x12_2 t191 (decide (t191 > (wrap64 (Int.tdiv (wrap64 (t186 + 1)) 2))))) else (laws_FnFair.j3 kj2001 (wrap64 ((wrap64 (4 * (wrap64 (1 + t156)))) + t168)) t177 (rd ((rd_T35 t177 x12_2).f1) 0) (rd ((rd_T35 t177 x12_2).f1) 1) x11_2 x12_2 t191 false))) = some r := H
 have A3010 := Aside0.mk A30100
 clear A30100
 have HC3011 := Aside0.mk H
 clear H
 go_upto_region 22 with (first | ((with_reducible refine gate_callee (f := 17) rfl ?_); refine goesL_ (some 88) rfl rfl Try.func17 (by kernel_rfl) rfl #[.int .i64 x9_2, .int .i64 x10_2] rfl wT ?_; (with_reducible refine (laws_lwAway.calls x9_2 x10_2 t186 _ A3005.out).mono ?_); rintro e w' ⟨rfl, ⟨nd, rfl⟩⟩; refine ⟨_, rfl, ?_⟩; have p187 : 0 ≤ (x12_2 : Int) := of_decide_eq_true (by first | (with_reducible assumption) | assumption); have q187 : x12_2 < (t177.length : Int) := of_decide_eq_true (by first | (with_reducible assumption) | assumption); obtain ⟨ad187, A187_1, c187_1, e187, hx187_0, hx187_1, hl187_1, hi187_1⟩ := at_T35 (Kd.S_reads' HO_7.out).2.2 x12_2 p187 q187; cases e187; obtain ⟨ce187, hce187, hMe187, hcc187⟩ := Kd.S_get HO_7.out z35 x12_2 p187 (by first | exact q187 | exact of_decide_eq_true (by first | (with_reducible assumption) | assumption) | (have e_ := (Kd.S_reads' HO_7.out).1; omega)); obtain ⟨ve187_1, rfl, ge187_1⟩ := k35_openM hMe187; have hv187_1 := hcc187 1 _ rfl; rw [add_field _ _ 1 (by omega)] at hv187_1; replace hv187_1 := Option.some.inj (hv187_1.symm.trans hx187_1); rw [hv187_1] at ge187_1; have HL187_1 := Aside0.mk (show Kd.R (Kd.int .i64) 2 _ _ _ _ ((rd_T35 t177 x12_2).f1) from ge187_1); clear hv187_1 ge187_1; clear hcc187 hce187; have HR187_1 := Aside0.mk hi187_1; have HC187_1 := Aside0.mk hl187_1; clear hi187_1 hl187_1; replace p187 := eq_true p187; replace q187 := eq_true q187; have p188 : 0 ≤ (0 : Int) := (by omega); have q188 : 0 < (((rd_T35 t177 x12_2).f1).length : Int) := of_decide_eq_true (by first | (with_reducible assumption) | assumption); obtain ⟨ad188, e188, hx188_0⟩ := Kd.at_int (by repeat (first | (with_reducible exact HR187_1.out) | (with_reducible refine Kd.C_alloc ?_ _) | (with_reducible refine Kd.C_drewN ?_ _) | (with_reducible refine Kd.C_drew ?_) | exact HR187_1.out)) 0 p188 q188; cases e188; have qi188 : (0 < ((rd_T35 t177 x12_2).f1).length) = True := eq_true (by omega); (try rw [show ((0 : Int)).toNat = 0 from rfl] at hx188_0); (try rw [Addr.add_zero'] at hx188_0); replace p188 := eq_true p188; replace q188 := eq_true q188; have p189 : 0 ≤ (x12_2 : Int) := of_decide_eq_true (by first | (with_reducible assumption) | assumption); have q189 : x12_2 < (t177.length : Int) := of_decide_eq_true (by first | (with_reducible assumption) | assumption); obtain ⟨ad189, A189_1, c189_1, e189, hx189_0, hx189_1, hl189_1, hi189_1⟩ := at_T35 (Kd.S_reads' HO_7.out).2.2 x12_2 p189 q189; obtain rfl : ad187 = ad189 := (by injection e189); obtain ⟨ce189, hce189, hMe189, hcc189⟩ := Kd.S_get HO_7.out z35 x12_2 p189 (by first | exact q189 | exact of_decide_eq_true (by first | (with_reducible assumption) | assumption) | (have e_ := (Kd.S_reads' HO_7.out).1; omega)); obtain ⟨ve189_1, rfl, ge189_1⟩ := k35_openM hMe189; have hv189_1 := hcc189 1 _ rfl; rw [add_field _ _ 1 (by omega)] at hv189_1; replace hv189_1 := Option.some.inj (hv189_1.symm.trans hx189_1); rw [hv189_1] at ge189_1; have HL189_1 := Aside0.mk (show Kd.R (Kd.int .i64) 2 _ _ _ _ ((rd_T35 t177 x12_2).f1) from ge189_1); clear hv189_1 ge189_1; clear hcc189 hce189; have HR189_1 := Aside0.mk hi189_1; have HC189_1 := Aside0.mk hl189_1; clear hi189_1 hl189_1; replace p189 := eq_true p189; replace q189 := eq_true q189; have ea_ := Option.some.inj (hx187_1.symm.trans hx189_1); injection ea_ with ea_ en_ ec_; subst ea_; subst ec_; clear en_; have p190 : 0 ≤ (1 : Int) := (by omega); have q190 : 1 < (((rd_T35 t177 x12_2).f1).length : Int) := of_decide_eq_true (by first | (with_reducible assumption) | assumption); obtain ⟨ad190, e190, hx190_0⟩ := Kd.at_int (by repeat (first | (with_reducible exact HR189_1.out) | (with_reducible refine Kd.C_alloc ?_ _) | (with_reducible refine Kd.C_drewN ?_ _) | (with_reducible refine Kd.C_drew ?_) | exact HR189_1.out)) 1 p190 q190; cases e190; (try simp only [show (1 : Int).toNat = 1 from rfl, Nat.reduceMul, Nat.reduceEqDiff, Go.Addr.add, ↓reduceIte] at hx190_0); have qi190 : (1 < ((rd_T35 t177 x12_2).f1).length) = True := eq_true (by omega); (try rw [show ((1 : Int)).toNat = 1 from rfl] at hx190_0); replace p190 := eq_true p190; replace q190 := eq_true q190) | ((with_reducible refine gate_callee (f := 17) rfl ?_); refine goesL_ (some 105) rfl rfl Try.func17 (by kernel_rfl) rfl #[.int .i64 (rd ((rd_T35 t177 x12_2).f1) 0), .int .i64 (rd ((rd_T35 t177 x12_2).f1) 1)] rfl wT ?_; (with_reducible refine (laws_lwAway.calls (rd ((rd_T35 t177 x12_2).f1) 0) (rd ((rd_T35 t177 x12_2).f1) 1) t191 _ A3010.out).mono ?_); rintro e w' ⟨rfl, ⟨nd, rfl⟩⟩; refine ⟨_, rfl, ?_⟩))
 (try simp only [Act.put, List.setIfInBounds_toArray, List.set_cons_zero, List.set_cons_succ])
 go_cut [122] (fun v122 wc => ∃ (kq : Nat) (x122_3010 : Bool), v122 = .bool x122_3010 ∧ Aside0 (laws_FnFair.j3 kq (wrap64 ((wrap64 (4 * (wrap64 (1 + t156)))) + t168)) t177 (rd ((rd_T35 t177 x12_2).f1) 0) (rd ((rd_T35 t177 x12_2).f1) 1) x11_2 x12_2 t191 x122_3010 = some r) ∧ Aside0 (kq ≤ kj2001) ∧ Aside0 (Kd.S k35 35 wc w.heap.size (fun _ => True) (.slice (some ad187) t177.length co3001) t177) ∧ Aside0 (Below w.heap.size w wc))
 case first => (
 have H := HC3011.out
 clear HC3011
 by_cases c4001 : t191 > t186
 rw [if_pos c4001] at H
 have c4001b0 : decide (t186 < t191) = true := decide_eq_true c4001
 clear c4001
 (first | rw [c4001b0] | (simp only [i64_w, i32_w]; rw [c4001b0]) | skip)
 have H' := Aside0.mk H
 clear H
 rotate_left
 rw [if_neg c4001] at H
 have c4001b0 : decide (t186 < t191) = false := decide_eq_false c4001
 clear c4001
 (first | rw [c4001b0] | (simp only [i64_w, i32_w]; rw [c4001b0]) | skip)
 obtain ⟨bq4002, hbq4002⟩ : ∃ b_ : Bool, b_ = ((rd_T35 t177 x12_2).f0) := ⟨_, rfl⟩
 replace H : (if bq4002 = true then (laws_FnFair.j3 kj2001 (wrap64 ((wrap64 (4 * (wrap64 (1 + t156)))) + t168)) t177 (rd ((rd_T35 t177 x12_2).f1) 0) (rd ((rd_T35 t177 x12_2).f1) 1) x11_2 x12_2 t191 (decide (t191 > (wrap64 (Int.tdiv (wrap64 (t186 + 1)) 2))))) else (laws_FnFair.j3 kj2001 (wrap64 ((wrap64 (4 * (wrap64 (1 + t156)))) + t168)) t177 (rd ((rd_T35 t177 x12_2).f1) 0) (rd ((rd_T35 t177 x12_2).f1) 1) x11_2 x12_2 t191 false)) = some r := by rw [← hbq4002] at H; exact H
 have Nbq4002 := Aside0.mk hbq4002
 clear hbq4002
 by_cases c4003 : bq4002 = true
 subst c4003
 have H1 : (laws_FnFair.j3 kj2001 (wrap64 ((wrap64 (4 * (wrap64 (1 + t156)))) + t168)) t177 (rd ((rd_T35 t177 x12_2).f1) 0) (rd ((rd_T35 t177 x12_2).f1) 1) x11_2 x12_2 t191 (decide (t191 > (wrap64 (Int.tdiv (wrap64 (t186 + 1)) 2))))) = some r := by rw [if_pos rfl] at H; exact H
 clear H
 have H := H1
 clear H1
 have H' := Aside0.mk H
 clear H
 rotate_left
 replace c4003 := Bool.eq_false_iff.mpr c4003
 subst c4003
 have H1 : (laws_FnFair.j3 kj2001 (wrap64 ((wrap64 (4 * (wrap64 (1 + t156)))) + t168)) t177 (rd ((rd_T35 t177 x12_2).f1) 0) (rd ((rd_T35 t177 x12_2).f1) 1) x11_2 x12_2 t191 false) = some r := by rw [if_neg (show ¬ (false = true) by decide)] at H; exact H
 clear H
 have H := H1
 clear H1
 have H' := Aside0.mk H
 clear H
 rotate_left
 {
 go_wp2
 all_goals (try (rename_i h_; exfalso; cases h_; done))
 all_goals (try (rename_i h_ h2_; exfalso; cases h_; done))
 go_meet
 case rel => exact ⟨_, (true), (by first | rfl | (simp; done) | (simp [*]; done)), H', ⟨by have := HJ9.out; have := HK2.out; have := HJ2001.out; first | omega | exact Nat.le_refl _⟩, ⟨Sh HO_7⟩, ⟨wB⟩⟩
 }
 all_goals (
 have p192 : 0 ≤ (x12_2 : Int) := of_decide_eq_true (by first | (with_reducible assumption) | assumption)
 have q192 : x12_2 < (t177.length : Int) := of_decide_eq_true (by first | (with_reducible assumption) | assumption)
 obtain ⟨ad192, A192_1, c192_1, e192, hx192_0, hx192_1, hl192_1, hi192_1⟩ := at_T35 (Kd.S_reads' HO_7.out).2.2 x12_2 p192 q192
 (try rw [← Nbq4002.out] at hx192_0)
 obtain rfl : ad187 = ad192 := (by injection e192)
 obtain ⟨ce192, hce192, hMe192, hcc192⟩ := Kd.S_get HO_7.out z35 x12_2 p192 (by first | exact q192 | exact of_decide_eq_true (by first | (with_reducible assumption) | assumption) | (have e_ := (Kd.S_reads' HO_7.out).1; omega))
 obtain ⟨ve192_1, rfl, ge192_1⟩ := k35_openM hMe192
 have hv192_1 := hcc192 1 _ rfl
 rw [add_field _ _ 1 (by omega)] at hv192_1
 replace hv192_1 := Option.some.inj (hv192_1.symm.trans hx192_1)
 rw [hv192_1] at ge192_1
 have HL192_1 := Aside0.mk (show Kd.R (Kd.int .i64) 2 _ _ _ _ ((rd_T35 t177 x12_2).f1) from ge192_1)
 clear hv192_1 ge192_1
 clear hcc192 hce192
 have HR192_1 := Aside0.mk hi192_1
 have HC192_1 := Aside0.mk hl192_1
 clear hi192_1 hl192_1
 replace p192 := eq_true p192
 replace q192 := eq_true q192
 go_wp2
 all_goals (try (rename_i h_; exfalso; cases h_; done))
 all_goals (try (rename_i h_ h2_; exfalso; cases h_; done))
 all_goals (try (rename_i h_; first | exact absurd (Nbq4002.out.trans h_) (by decide) | exact absurd Nbq4002.out.symm h_))
 go_meet
 )
 {
 case rel => exact ⟨_, (decide (t191 > (wrap64 (Int.tdiv (wrap64 (t186 + 1)) 2)))), (by first | rfl | (simp; done) | (simp [*]; done)), H', ⟨by have := HJ9.out; have := HK2.out; have := HJ2001.out; first | omega | exact Nat.le_refl _⟩, ⟨Sh HO_7⟩, ⟨wB⟩⟩
 }
 {
 case rel => exact ⟨_, (false), (by first | rfl | (simp; done) | (simp [*]; done)), H', ⟨by have := HJ9.out; have := HK2.out; have := HJ2001.out; first | omega | exact Nat.le_refl _⟩, ⟨Sh HO_7⟩, ⟨wB⟩⟩
 }
 )
 case rest => (
 clear HC3011
 try clear c0
 try clear c2
 try clear c2b0
 try clear c2b1
 try clear p2
 try clear c8
 try clear p181
 try clear q181
 try clear hx181
 try clear qi181
 try clear p182
 try clear q182
 try clear hx182
 try clear qi182
 try clear c184
 try clear p184
 try clear q184
 try clear hx184
 try clear c185
 try clear p185
 try clear q185
 try clear hx185
 try clear c187
 try clear p187
 try clear q187
 try clear hx187
 try clear p188
 try clear q188
 try clear hx188
 try clear qi188
 try clear c189
 try clear p189
 try clear q189
 try clear hx189
 try clear p190
 try clear q190
 try clear hx190
 try clear qi190
 try clear c192
 try clear p192
 try clear q192
 try clear hx192
 try clear c1017
 try clear c1017b0
 try clear c1017b1
 try clear c1018
 try clear c1019
 try clear c1019b0
 try clear c1019b1
 try clear c1020
 try clear c1020b0
 try clear c1020b1
 try clear c2001
 try clear c2001b0
 try clear c3002
 try clear c3002b0
 try clear c3003
 try clear c3003b0
 try clear c3003b1
 try clear c3004
 try clear c3006
 try clear c3006b0
 try clear c3007
 try clear c3007b0
 try clear c3008
 try clear c3008b0
 try clear c3008b1
 try clear c3009
 try clear c3009b0
 try clear c3009b1
 try clear c4001
 try clear c4001b0
 try clear c4003
 try clear hcz1003_0 hcz1003_1 hcz1003_2 hfz1003_0 hfz1003_1 hfz1003_2
 try clear hx181_0
 try clear hx182_0
 try clear hx184_0
 try clear hx184_1
 try clear hx185_0
 try clear hx185_1
 try clear hx187_0
 try clear hx187_1
 try clear hx188_0
 try clear hx189_0
 try clear hx189_1
 try clear hx190_0
 try clear hx192_0
 try clear hx192_1
 try clear p181
 try clear p182
 try clear p184
 try clear p185
 try clear p187
 try clear p188
 try clear p189
 try clear p190
 try clear p192
 try clear p2
 try clear q181
 try clear q182
 try clear q184
 try clear q185
 try clear q187
 try clear q188
 try clear q189
 try clear q190
 try clear q192
 obtain ⟨kq, x122_3010, rfl, HA, HJ3010, HO_7, HB⟩ := hcut
 cases kq with
 | zero => exact absurd HA.out (by simp [laws_FnFair.j3])
 | succ kj3010 => {
 have H := HA.out
 clear HA
 simp only [laws_FnFair.j3] at H
 by_cases c4004 : x122_3010 = true
 subst c4004
 have H1 : (some false) = some r := by rw [if_pos rfl] at H; exact H
 clear H
 have H := H1
 clear H1
 obtain rfl := Option.some.inj H
 rotate_left
 replace c4004 := Bool.eq_false_iff.mpr c4004
 subst c4004
 have H1 : (if 0 ≤ x12_2 then (if x12_2 < (t177.length : Int) then (if (rd_T35 t177 x12_2).f0 = true then (if t191 > (wrap64 (Int.tdiv (wrap64 (x11_2 + 1)) 2)) then (some false) else (laws_FnFair.l0 kj3010 (wrap64 ((wrap64 (4 * (wrap64 (1 + t156)))) + t168)) t177 (rd ((rd_T35 t177 x12_2).f1) 0) (rd ((rd_T35 t177 x12_2).f1) 1) (wrap64 (Int.tdiv (wrap64 (x11_2 + 1)) 2)) (wrap64 (x12_2 + 1)))) else (if t191 > x11_2 then (some false) else (laws_FnFair.l0 kj3010 (wrap64 ((wrap64 (4 * (wrap64 (1 + t156)))) + t168)) t177 (rd ((rd_T35 t177 x12_2).f1) 0) (rd ((rd_T35 t177 x12_2).f1) 1) x11_2 (wrap64 (x12_2 + 1))))) else (none)) else (none)) = some r := by rw [if_neg (show ¬ (false = true) by decide)] at H; exact H
 clear H
 have H := H1
 clear H1
 by_cases c4005 : 0 ≤ x12_2
 rw [if_pos c4005] at H
 have c4005b0 : decide (0 ≤ x12_2) = true := decide_eq_true c4005
 clear c4005
 by_cases c4006 : x12_2 < (t177.length : Int)
 rw [if_pos c4006] at H
 have c4006b0 : decide (x12_2 < (t177.length : Int)) = true := decide_eq_true c4006
 clear c4006
 obtain ⟨bq4007, hbq4007⟩ : ∃ b_ : Bool, b_ = ((rd_T35 t177 x12_2).f0) := ⟨_, rfl⟩
 replace H : (if bq4007 = true then (if t191 > (wrap64 (Int.tdiv (wrap64 (x11_2 + 1)) 2)) then (some false) else (laws_FnFair.l0 kj3010 (wrap64 ((wrap64 (4 * (wrap64 (1 + t156)))) + t168)) t177 (rd ((rd_T35 t177 x12_2).f1) 0) (rd ((rd_T35 t177 x12_2).f1) 1) (wrap64 (Int.tdiv (wrap64 (x11_2 + 1)) 2)) (wrap64 (x12_2 + 1)))) else (if t191 > x11_2 then (some false) else (laws_FnFair.l0 kj3010 (wrap64 ((wrap64 (4 * (wrap64 (1 + t156)))) + t168)) t177 (rd ((rd_T35 t177 x12_2).f1) 0) (rd ((rd_T35 t177 x12_2).f1) 1) x11_2 (wrap64 (x12_2 + 1))))) = some r := by rw [← hbq4007] at H; exact H
 have Nbq4007 := Aside0.mk hbq4007
 clear hbq4007
 by_cases c4008 : bq4007 = true
 subst c4008
 have H1 : (if t191 > (wrap64 (Int.tdiv (wrap64 (x11_2 + 1)) 2)) then (some false) else (laws_FnFair.l0 kj3010 (wrap64 ((wrap64 (4 * (wrap64 (1 + t156)))) + t168)) t177 (rd ((rd_T35 t177 x12_2).f1) 0) (rd ((rd_T35 t177 x12_2).f1) 1) (wrap64 (Int.tdiv (wrap64 (x11_2 + 1)) 2)) (wrap64 (x12_2 + 1)))) = some r := by rw [if_pos rfl] at H; exact H
 clear H
 have H := H1
 clear H1
 by_cases c4009 : t191 > (wrap64 (Int.tdiv (wrap64 (x11_2 + 1)) 2))
 rw [if_pos c4009] at H
 have c4009b0 : decide ((wrap64 (Int.tdiv (wrap64 (x11_2 + 1)) 2)) < t191) = true := decide_eq_true c4009
 clear c4009
 obtain rfl := Option.some.inj H
 rotate_left
 rw [if_neg c4009] at H
 have c4009b0 : decide ((wrap64 (Int.tdiv (wrap64 (x11_2 + 1)) 2)) < t191) = false := decide_eq_false c4009
 clear c4009
 have H' := Aside0.mk H
 clear H
 rotate_left
 replace c4008 := Bool.eq_false_iff.mpr c4008
 subst c4008
 have H1 : (if t191 > x11_2 then (some false) else (laws_FnFair.l0 kj3010 (wrap64 ((wrap64 (4 * (wrap64 (1 + t156)))) + t168)) t177 (rd ((rd_T35 t177 x12_2).f1) 0) (rd ((rd_T35 t177 x12_2).f1) 1) x11_2 (wrap64 (x12_2 + 1)))) = some r := by rw [if_neg (show ¬ (false = true) by decide)] at H; exact H
 clear H
 have H := H1
 clear H1
 by_cases c4010 : t191 > x11_2
 rw [if_pos c4010] at H
 have c4010b0 : decide (x11_2 < t191) = true := decide_eq_true c4010
 clear c4010
 obtain rfl := Option.some.inj H
 rotate_left
 rw [if_neg c4010] at H
 have c4010b0 : decide (x11_2 < t191) = false := decide_eq_false c4010
 clear c4010
 have H' := Aside0.mk H
 clear H
 rotate_left
 rw [if_neg c4006] at H
 exact absurd H (by simp)
 rw [if_neg c4005] at H
 exact absurd H (by simp)
 {
 go_wp2
 all_goals (try (rename_i h_; exfalso; cases h_; done))
 all_goals (try (rename_i h_ h2_; exfalso; cases h_; done))
 go_ret
 exact ⟨by first | rfl | (simp [errW_none, errW_some] <;> rfl) | (simp [*, errW_none, errW_some] <;> rfl), wB⟩
 }
 all_goals (
 have p193 : 0 ≤ (x12_2 : Int) := of_decide_eq_true (by first | (with_reducible assumption) | assumption)
 have q193 : x12_2 < (t177.length : Int) := of_decide_eq_true (by first | (with_reducible assumption) | assumption)
 obtain ⟨ad193, A193_1, c193_1, e193, hx193_0, hx193_1, hl193_1, hi193_1⟩ := at_T35 (Kd.S_reads' HO_7.out).2.2 x12_2 p193 q193
 (try rw [← Nbq4007.out] at hx193_0)
 obtain rfl : ad187 = ad193 := (by injection e193)
 obtain ⟨ce193, hce193, hMe193, hcc193⟩ := Kd.S_get HO_7.out z35 x12_2 p193 (by first | exact q193 | exact of_decide_eq_true (by first | (with_reducible assumption) | assumption) | (have e_ := (Kd.S_reads' HO_7.out).1; omega))
 obtain ⟨ve193_1, rfl, ge193_1⟩ := k35_openM hMe193
 have hv193_1 := hcc193 1 _ rfl
 rw [add_field _ _ 1 (by omega)] at hv193_1
 replace hv193_1 := Option.some.inj (hv193_1.symm.trans hx193_1)
 rw [hv193_1] at ge193_1
 have HL193_1 := Aside0.mk (show Kd.R (Kd.int .i64) 2 _ _ _ _ ((rd_T35 t177 x12_2).f1) from ge193_1)
 clear hv193_1 ge193_1
 clear hcc193 hce193
 have HR193_1 := Aside0.mk hi193_1
 have HC193_1 := Aside0.mk hl193_1
 clear hi193_1 hl193_1
 replace p193 := eq_true p193
 replace q193 := eq_true q193
 go_wp2
 all_goals (try (rename_i h_; exfalso; cases h_; done))
 all_goals (try (rename_i h_ h2_; exfalso; cases h_; done))
 all_goals (try (rename_i h_; first | exact absurd (Nbq4007.out.trans h_) (by decide) | exact absurd Nbq4007.out.symm h_))
 )
 {
 go_ret
 exact ⟨by first | rfl | (simp [errW_none, errW_some] <;> rfl) | (simp [*, errW_none, errW_some] <;> rfl), wB⟩
 }
 {
 go_roundg kj3010
 case measure => have := HJ9.out; have := HK2.out; have := HJ2001.out; have := HJ3010.out; omega
 case rel => exact ⟨((rd ((rd_T35 t177 x12_2).f1) 0)), ((rd ((rd_T35 t177 x12_2).f1) 1)), (wrap64 (Int.tdiv (wrap64 (x11_2 + 1)) 2)), (wrap64 (x12_2 + 1)), (by first | rfl | (simp; done) | (simp [*]; done)), (by first | rfl | (simp; done) | (simp [*]; done)), (by first | rfl | (simp; done) | (simp [*]; done)), (by first | rfl | (simp; done) | (simp [*]; done)), H', ⟨by have := HJ9.out; have := HK2.out; have := HJ2001.out; have := HJ3010.out; omega⟩, ⟨Sh HO_7⟩, ⟨wB⟩⟩
 }
 {
 go_ret
 exact ⟨by first | rfl | (simp [errW_none, errW_some] <;> rfl) | (simp [*, errW_none, errW_some] <;> rfl), wB⟩
 }
 {
 go_roundg kj3010
 case measure => have := HJ9.out; have := HK2.out; have := HJ2001.out; have := HJ3010.out; omega
 case rel => exact ⟨((rd ((rd_T35 t177 x12_2).f1) 0)), ((rd ((rd_T35 t177 x12_2).f1) 1)), (x11_2), (wrap64 (x12_2 + 1)), (by first | rfl | (simp; done) | (simp [*]; done)), (by first | rfl | (simp; done) | (simp [*]; done)), (by first | rfl | (simp; done) | (simp [*]; done)), (by first | rfl | (simp; done) | (simp [*]; done)), H', ⟨by have := HJ9.out; have := HK2.out; have := HJ2001.out; have := HJ3010.out; omega⟩, ⟨Sh HO_7⟩, ⟨wB⟩⟩
 }
 }
 )
 }
 {
 rw [if_neg c3009] at H
 exact absurd H (by simp)
 }
 }
 {
 rw [if_neg c3008] at H
 exact absurd H (by simp)
 }
 }
 {
 rw [if_neg c3007] at H
 exact absurd H (by simp)
 }
 }
 {
 rw [if_neg c3006] at H
 exact absurd H (by simp)
 }
 }
 }
 )
 }
 {
 rw [if_neg c2001] at H
 have c2001b0 : decide (x12_2 < (t177.length : Int)) = false := decide_eq_false c2001
 clear c2001
 obtain rfl := Option.some.inj H
 obtain ⟨Ao3001, co3001, eo3001⟩ := Kd.S_slice HO_7.out
 subst eo3001
 go_wp2
 all_goals (try (rename_i h_; exfalso; cases h_; done))
 all_goals (try (rename_i h_ h2_; exfalso; cases h_; done))
 go_ret
 exact ⟨by first | rfl | (simp [errW_none, errW_some] <;> rfl) | (simp [*, errW_none, errW_some] <;> rfl), wB⟩
 }
 }
 )
 }
 {
 rw [if_neg c1020] at H
 exact absurd H (by simp)
 }
 }
 {
 rw [if_neg c1019] at H
 exact absurd H (by simp)
 }
 }
 }
 )
 }
 {
 rw [if_neg c8] at H
 exact absurd H (by simp)
 }
 }

/-- THE ONE PURE STATEMENT of laws_FnFair: yours. -/
def laws_FnFair.Pure : Prop := ∀ (l0 : List Int), l0.length ≤ maxLen → l0.length * 1 ≤ 140737488351232 → (∀ x ∈ l0, (Lit.int .u8 x).wf = true) → ∃ k, laws_FnFair.f k l0 = some true
theorem laws_FnFair.walk (P : laws_FnFair.Pure) (a0 : Option Addr) (len0 cap0 : Nat) (z0 : List Int) (w : World) (w0 : (a0 = none ∧ len0 = 0 ∧ cap0 = 0 ∧ z0 = []) ∨ ∃ x, a0 = some x ∧ len0 ≤ cap0 ∧ cap0 ≤ maxLen ∧ z0.length = cap0 ∧ (∀ i, i < z0.length → w.cell? (x.add i) = some (.int .u8 (z0.getD i 0))) ∧ ∀ n ∈ z0, (Lit.int .u8 n).wf = true) (y0 : len0 * 1 ≤ 140737488351232) :
 Calls Try.prog 3 #[.slice a0 len0 cap0] w fun e w' => e = .returned (.bool true) ∧ Below w.heap.size w w' := by
 obtain ⟨l0, rfl, hr0, hm0, hw0, hc0⟩ := ReadsInt.ofRowC w0
 obtain ⟨k, h⟩ := P l0 hm0 y0 hw0
 refine (laws_FnFair.calls k _ _ l0 true w (Kd.C_of_reads (d := (0 : Int)) (h1 := fun _ => rfl) hr0) hc0 h).mono ?_
 rintro e w' ⟨rfl, hd⟩
 exact ⟨rfl, hd⟩

end Go.Proofs.Ytkfbcmbemihbnaa.PFnFair
