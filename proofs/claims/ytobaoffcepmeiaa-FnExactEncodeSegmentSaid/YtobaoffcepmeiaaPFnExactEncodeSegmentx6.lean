-- Written for this claim by a program of this session (wip/mkprint.py: the print, turned at a few places). Not trusted: Lean checks it.
import Derived.Test.YtobaoffcepmeiaaPFnExactEncodeSegmentx0
import Derived.Test.YtobaoffcepmeiaaPFnExactEncodeSegmentx3
import Derived.Test.YtobaoffcepmeiaaPFnExactEncodeSegmentx4
namespace Go.Proofs.Ytobaoffcepmeiaa.PFnExactEncodeSegment
open Go.RowKit Go.Proofs.YtobaoffcepmeiaaW.PrintWords Go.Proofs.YtobaoffcepmeiaaW.PrintLast Go.Proofs.YtobaoffcepmeiaaW.PrintMore
attribute [local go_sem] max2_int min2_int max_two min_two max_three min_three max_four min_four   -- for this text's walks alone
set_option linter.unusedVariables false
set_option linter.unusedSimpArgs false

/-! ### spec_l01Sum: function 156 -/
def spec_l01Sum.l0 : Nat → List Int → Int → Int → Option (Int)
  | 0, _, _, _ => none
  | k + 1, x0, x3, x4 => if x4 < (x0.length : Int) then (if 0 ≤ x4 then (if (wrap64 (x4 + 1)) < (x0.length : Int) then (if 0 ≤ (wrap64 (x4 + 1)) then (if (wrap64 (x3 + (wrap64 ((wrap64 ((wrap64 (rd x0 x4)) * 256)) + (wrap64 (rd x0 (wrap64 (x4 + 1)))))))) > 65535 then (spec_l01Sum.l0 k x0 (wrap64 ((wrap64 (x3 + (wrap64 ((wrap64 ((wrap64 (rd x0 x4)) * 256)) + (wrap64 (rd x0 (wrap64 (x4 + 1)))))))) - 65535)) (wrap64 (x4 + 2))) else (spec_l01Sum.l0 k x0 (wrap64 (x3 + (wrap64 ((wrap64 ((wrap64 (rd x0 x4)) * 256)) + (wrap64 (rd x0 (wrap64 (x4 + 1)))))))) (wrap64 (x4 + 2)))) else (none)) else (if (wrap64 (x3 + (wrap64 ((wrap64 (rd x0 x4)) * 256)))) > 65535 then (spec_l01Sum.l0 k x0 (wrap64 ((wrap64 (x3 + (wrap64 ((wrap64 (rd x0 x4)) * 256)))) - 65535)) (wrap64 (x4 + 2))) else (spec_l01Sum.l0 k x0 (wrap64 (x3 + (wrap64 ((wrap64 (rd x0 x4)) * 256)))) (wrap64 (x4 + 2))))) else (none)) else (some x3)
def spec_l01Sum.f (k : Nat) (l0 : List Int) : Option (Int) := spec_l01Sum.l0 k l0 0 0
theorem spec_l01Sum.mono_l : ∀ k, (∀ y0 y1 y2, LeO (spec_l01Sum.l0 k y0 y1 y2) (spec_l01Sum.l0 (k + 1) y0 y1 y2))
  | 0 => fun _ _ _ r h => by simp [spec_l01Sum.l0] at h
  | k + 1 => by
    have ih0 := spec_l01Sum.mono_l k
    · intro y0 y1 y2
      unfold spec_l01Sum.l0
      repeat' first
      | (with_reducible exact ih0 _ _ _)
      | (with_reducible exact LeO.refl _)
      | (with_reducible exact LeO.none _)
      | (with_reducible refine LeO.ite ?_ ?_)
      | (with_reducible refine LeO.bind ?_ (fun _ => ?_))
      | exact ih0 _ _ _
      | exact LeO.none _
      | refine LeO.ite ?_ ?_
      | refine LeO.bind ?_ (fun _ => ?_)
theorem spec_l01Sum.mono : ∀ a0 k, LeO (spec_l01Sum.f k a0) (spec_l01Sum.f (k + 1) a0) := by
 intro a0 k
 have ih0 := spec_l01Sum.mono_l k
 unfold spec_l01Sum.f
 repeat' first
     | (with_reducible exact ih0 _ _ _)
     | (with_reducible exact LeO.refl _)
     | (with_reducible exact LeO.none _)
     | (with_reducible refine LeO.ite ?_ ?_)
     | (with_reducible refine LeO.bind ?_ (fun _ => ?_))
     | exact ih0 _ _ _
     | exact LeO.none _
     | refine LeO.ite ?_ ?_
     | refine LeO.bind ?_ (fun _ => ?_)
set_option maxHeartbeats 8000000 in
set_option maxRecDepth 100000 in
theorem spec_l01Sum.calls (k : Nat) (A0 : Option Addr) (c0 : Nat) (l0 : List Int) (r : Int) (w : World) (hr0 : Kd.C (Kd.int .u8) w A0 l0.length l0) (hc0 : l0.length ≤ c0) (h : spec_l01Sum.f k l0 = some r) :
 Calls Try.prog 156 #[.slice A0 l0.length c0] w fun e w' => e = .returned (.int .i64 r) ∧ Drawn0 w w' := by
 have HR0 := Aside0.mk hr0
 have HC0 := Aside0.mk hc0
 clear hr0 hc0
 have H : (spec_l01Sum.l0 k l0 0 0) = some r := h
 clear h
 have H' := Aside0.mk H
 clear H
 go_enter Try.func156, Try.ntmps156
 go_wp2
 go_loopg [3, 4] k (fun kq v3 v4 w' => ∃ (x3_1 : Int) (x4_1 : Int), v3 = .int .i64 x3_1 ∧ v4 = .int .i64 x4_1 ∧ Aside0 (spec_l01Sum.l0 kq l0 x3_1 x4_1 = some r) ∧ Aside0 (kq ≤ k) ∧ Drawn0 w w')
 case atStart => exact ⟨(0), (0), (by first | rfl | (simp; done) | (simp [*]; done)), (by first | rfl | (simp; done) | (simp [*]; done)), H', ⟨Nat.le_refl _⟩, by repeat (first | exact Drawn0.refl _ | apply Drawn0.step)⟩
 case round => (
 clear H'
 try clear c1
 obtain ⟨x3_1, x4_1, rfl, rfl, HA, HK1, ⟨m1, rfl⟩⟩ := hrel
 cases gk with
 | zero => exact absurd HA.out (by simp [spec_l01Sum.l0])
 | succ k1 => {
 have H := HA.out
 clear HA
 simp only [spec_l01Sum.l0] at H
 by_cases c2 : x4_1 < (l0.length : Int)
 {
 rw [if_pos c2] at H
 have c2b0 : decide (x4_1 < (l0.length : Int)) = true := decide_eq_true c2
 clear c2
 by_cases c3 : 0 ≤ x4_1
 {
 rw [if_pos c3] at H
 have c3b0 : decide (0 ≤ x4_1) = true := decide_eq_true c3
 clear c3
 by_cases c4 : (wrap64 (x4_1 + 1)) < (l0.length : Int)
 {
 rw [if_pos c4] at H
 have c4b0 : decide ((wrap64 (x4_1 + 1)) < (l0.length : Int)) = true := decide_eq_true c4
 clear c4
 obtain ⟨ji5, hji5⟩ : ∃ j_ : Int, (wrap64 (x4_1 + 1)) = j_ := ⟨_, rfl⟩
 replace H : (if 0 ≤ (ji5) then (if (wrap64 (x3_1 + (wrap64 ((wrap64 ((wrap64 (rd l0 x4_1)) * 256)) + (wrap64 (rd l0 (ji5))))))) > 65535 then (spec_l01Sum.l0 k1 l0 (wrap64 ((wrap64 (x3_1 + (wrap64 ((wrap64 ((wrap64 (rd l0 x4_1)) * 256)) + (wrap64 (rd l0 (ji5))))))) - 65535)) (wrap64 (x4_1 + 2))) else (spec_l01Sum.l0 k1 l0 (wrap64 (x3_1 + (wrap64 ((wrap64 ((wrap64 (rd l0 x4_1)) * 256)) + (wrap64 (rd l0 (ji5))))))) (wrap64 (x4_1 + 2)))) else (none)) = some r := by first | (rw [hji5] at H; exact H) | (simp only [hji5] at H ⊢; exact H)
 (try rw [hji5] at c4b0)
 have hji5w : (IntKind.i64.wrap (x4_1 + 1)) = ji5 := (i64_w _).trans hji5
 by_cases c6 : 0 ≤ (ji5)
 {
 rw [if_pos c6] at H
 have c6b0 : decide (0 ≤ (ji5)) = true := decide_eq_true c6
 clear c6
 by_cases c7 : (wrap64 (x3_1 + (wrap64 ((wrap64 ((wrap64 (rd l0 x4_1)) * 256)) + (wrap64 (rd l0 (ji5))))))) > 65535
 {
 rw [if_pos c7] at H
 have c7b0 : decide (65535 < (wrap64 (x3_1 + (wrap64 ((wrap64 ((wrap64 (rd l0 x4_1)) * 256)) + (wrap64 (rd l0 (ji5)))))))) = true := decide_eq_true c7
 clear c7
 have H' := Aside0.mk H
 clear H
 have p222 : 0 ≤ (x4_1 : Int) := of_decide_eq_true (by first | (with_reducible assumption) | assumption)
 have q222 : x4_1 < (l0.length : Int) := of_decide_eq_true (by first | (with_reducible assumption) | assumption)
 obtain ⟨ad222, e222, hx222_0⟩ := Kd.at_int HR0.out x4_1 p222 q222
 cases e222
 replace p222 := eq_true p222
 replace q222 := eq_true q222
 have p223 : 0 ≤ ((ji5) : Int) := of_decide_eq_true (by first | (with_reducible assumption) | assumption)
 have q223 : (ji5) < (l0.length : Int) := of_decide_eq_true (by first | (with_reducible assumption) | assumption)
 obtain ⟨ad223, e223, hx223_0⟩ := Kd.at_int HR0.out (ji5) p223 q223
 obtain rfl : ad222 = ad223 := (by injection e223)
 replace p223 := eq_true p223
 replace q223 := eq_true q223
 go_wp2
 go_roundg k1
 case measure => have := HK1.out; omega
 case rel => exact ⟨(wrap64 ((wrap64 (x3_1 + (wrap64 ((wrap64 ((wrap64 (rd l0 x4_1)) * 256)) + (wrap64 (rd l0 (ji5))))))) - 65535)), (wrap64 (x4_1 + 2)), (by first | rfl | (simp; done) | (simp only [← hji5] <;> (first | rfl | simp)) | (simp [*]; done)), (by first | rfl | (simp; done) | (simp [*]; done)), H', ⟨by have := HK1.out; omega⟩, by repeat (first | exact Drawn0.refl _ | apply Drawn0.step)⟩
 }
 {
 rw [if_neg c7] at H
 have c7b0 : decide (65535 < (wrap64 (x3_1 + (wrap64 ((wrap64 ((wrap64 (rd l0 x4_1)) * 256)) + (wrap64 (rd l0 (ji5)))))))) = false := decide_eq_false c7
 clear c7
 have H' := Aside0.mk H
 clear H
 have p222 : 0 ≤ (x4_1 : Int) := of_decide_eq_true (by first | (with_reducible assumption) | assumption)
 have q222 : x4_1 < (l0.length : Int) := of_decide_eq_true (by first | (with_reducible assumption) | assumption)
 obtain ⟨ad222, e222, hx222_0⟩ := Kd.at_int HR0.out x4_1 p222 q222
 cases e222
 replace p222 := eq_true p222
 replace q222 := eq_true q222
 have p223 : 0 ≤ ((ji5) : Int) := of_decide_eq_true (by first | (with_reducible assumption) | assumption)
 have q223 : (ji5) < (l0.length : Int) := of_decide_eq_true (by first | (with_reducible assumption) | assumption)
 obtain ⟨ad223, e223, hx223_0⟩ := Kd.at_int HR0.out (ji5) p223 q223
 obtain rfl : ad222 = ad223 := (by injection e223)
 replace p223 := eq_true p223
 replace q223 := eq_true q223
 go_wp2
 go_roundg k1
 case measure => have := HK1.out; omega
 case rel => exact ⟨(wrap64 (x3_1 + (wrap64 ((wrap64 ((wrap64 (rd l0 x4_1)) * 256)) + (wrap64 (rd l0 (ji5))))))), (wrap64 (x4_1 + 2)), (by first | rfl | (simp; done) | (simp only [← hji5] <;> (first | rfl | simp)) | (simp [*]; done)), (by first | rfl | (simp; done) | (simp [*]; done)), H', ⟨by have := HK1.out; omega⟩, by repeat (first | exact Drawn0.refl _ | apply Drawn0.step)⟩
 }
 }
 {
 rw [if_neg c6] at H
 exact absurd H (by simp)
 }
 }
 {
 rw [if_neg c4] at H
 have c4b0 : decide ((wrap64 (x4_1 + 1)) < (l0.length : Int)) = false := decide_eq_false c4
 clear c4
 by_cases c8 : (wrap64 (x3_1 + (wrap64 ((wrap64 (rd l0 x4_1)) * 256)))) > 65535
 {
 rw [if_pos c8] at H
 have c8b0 : decide (65535 < (wrap64 (x3_1 + (wrap64 ((wrap64 (rd l0 x4_1)) * 256))))) = true := decide_eq_true c8
 clear c8
 have H' := Aside0.mk H
 clear H
 have p222 : 0 ≤ (x4_1 : Int) := of_decide_eq_true (by first | (with_reducible assumption) | assumption)
 have q222 : x4_1 < (l0.length : Int) := of_decide_eq_true (by first | (with_reducible assumption) | assumption)
 obtain ⟨ad222, e222, hx222_0⟩ := Kd.at_int HR0.out x4_1 p222 q222
 cases e222
 replace p222 := eq_true p222
 replace q222 := eq_true q222
 go_wp2
 go_roundg k1
 case measure => have := HK1.out; omega
 case rel => exact ⟨(wrap64 ((wrap64 (x3_1 + (wrap64 ((wrap64 (rd l0 x4_1)) * 256)))) - 65535)), (wrap64 (x4_1 + 2)), (by first | rfl | (simp; done) | (simp [*]; done)), (by first | rfl | (simp; done) | (simp [*]; done)), H', ⟨by have := HK1.out; omega⟩, by repeat (first | exact Drawn0.refl _ | apply Drawn0.step)⟩
 }
 {
 rw [if_neg c8] at H
 have c8b0 : decide (65535 < (wrap64 (x3_1 + (wrap64 ((wrap64 (rd l0 x4_1)) * 256))))) = false := decide_eq_false c8
 clear c8
 have H' := Aside0.mk H
 clear H
 have p222 : 0 ≤ (x4_1 : Int) := of_decide_eq_true (by first | (with_reducible assumption) | assumption)
 have q222 : x4_1 < (l0.length : Int) := of_decide_eq_true (by first | (with_reducible assumption) | assumption)
 obtain ⟨ad222, e222, hx222_0⟩ := Kd.at_int HR0.out x4_1 p222 q222
 cases e222
 replace p222 := eq_true p222
 replace q222 := eq_true q222
 go_wp2
 go_roundg k1
 case measure => have := HK1.out; omega
 case rel => exact ⟨(wrap64 (x3_1 + (wrap64 ((wrap64 (rd l0 x4_1)) * 256)))), (wrap64 (x4_1 + 2)), (by first | rfl | (simp; done) | (simp [*]; done)), (by first | rfl | (simp; done) | (simp [*]; done)), H', ⟨by have := HK1.out; omega⟩, by repeat (first | exact Drawn0.refl _ | apply Drawn0.step)⟩
 }
 }
 }
 {
 rw [if_neg c3] at H
 exact absurd H (by simp)
 }
 }
 {
 rw [if_neg c2] at H
 have c2b0 : decide (x4_1 < (l0.length : Int)) = false := decide_eq_false c2
 clear c2
 obtain rfl := Option.some.inj H
 go_wp2
 go_ret
 exact ⟨by first | rfl | (simp; done) | (simp [*]; done), by repeat (first | exact Drawn0.refl _ | apply Drawn0.step)⟩
 }
 }
 )

/-! ### spec_Checksum: function 148 -/
def spec_Checksum.f (k : Nat) (l0 : List Int) : Option (Int) := (spec_l01Sum.f k l0).bind fun t224 => (some (wrap64 (65535 - t224)))
theorem spec_Checksum.mono : ∀ a0 k, LeO (spec_Checksum.f k a0) (spec_Checksum.f (k + 1) a0) := by
 intro a0 k
 unfold spec_Checksum.f
 repeat' first
     | (with_reducible exact spec_l01Sum.mono _ _)
     | (with_reducible exact LeO.refl _)
     | (with_reducible exact LeO.none _)
     | (with_reducible refine LeO.ite ?_ ?_)
     | (with_reducible refine LeO.bind ?_ (fun _ => ?_))
     | exact spec_l01Sum.mono _ _
     | exact LeO.none _
     | refine LeO.ite ?_ ?_
     | refine LeO.bind ?_ (fun _ => ?_)
set_option maxHeartbeats 8000000 in
set_option maxRecDepth 100000 in
theorem spec_Checksum.calls (k : Nat) (A0 : Option Addr) (c0 : Nat) (l0 : List Int) (r : Int) (w : World) (hr0 : Kd.C (Kd.int .u8) w A0 l0.length l0) (hc0 : l0.length ≤ c0) (h : spec_Checksum.f k l0 = some r) :
 Calls Try.prog 148 #[.slice A0 l0.length c0] w fun e w' => e = .returned (.int .i64 r) ∧ Drawn0 w w' := by
 have HR0 := Aside0.mk hr0
 have HC0 := Aside0.mk hc0
 clear hr0 hc0
 have H : ((spec_l01Sum.f k l0).bind fun t224 => (some (wrap64 (65535 - t224)))) = some r := h
 clear h
 replace H := Option.bind_eq_some_iff.mp H
 obtain ⟨t224, A20, H⟩ := H
 replace H : (some (wrap64 (65535 - t224))) = some r := H
 have A2 := Aside0.mk A20
 clear A20
 obtain rfl := Option.some.inj H
 go_enter Try.func148, Try.ntmps148
 go_wp2_with (first | ((with_reducible refine gate_callee (f := 156) rfl ?_); refine goesL_ (some 4) rfl rfl Try.func156 (by kernel_rfl) rfl #[.slice A0 l0.length c0] rfl wT ?_; (with_reducible refine (spec_l01Sum.calls k _ _ l0 t224 _ ?side1 ?side2 A2.out).mono ?_); (case side1 => repeat (first | exact HR0.out | (with_reducible refine Kd.C_alloc ?_ _) | (with_reducible refine Kd.C_drewN ?_ _) | (with_reducible refine Kd.C_drew ?_))); (case side2 => exact HC0.out); rintro e w' ⟨rfl, ⟨nd, rfl⟩⟩; refine ⟨_, rfl, ?_⟩))
 go_ret
 exact ⟨by first | rfl | (simp; done) | (simp [*]; done), by repeat (first | exact Drawn0.refl _ | apply Drawn0.step)⟩

/-! ### spec_FalseHead: function 151 -/
def spec_FalseHead.f (k : Nat) (a0 : Int) (a1 : Int) (a2 : Int) (a3 : Int) : Option (List Int) := (spec_l03Put.f k a0 4).bind fun t225 => ((spec_l03Put.f k a1 4).bind fun t228 => ((spec_l01Join.f k t225 t228).bind fun t231 => ((spec_l01Join.f k t231 (([0, (a2) % 256] : List Int))).bind fun t237 => ((spec_l03Put.f k a3 2).bind fun t240 => ((spec_l01Join.f k t237 t240).bind fun t243 => (some t243))))))
theorem spec_FalseHead.mono : ∀ a0 a1 a2 a3 k, LeO (spec_FalseHead.f k a0 a1 a2 a3) (spec_FalseHead.f (k + 1) a0 a1 a2 a3) := by
 intro a0 a1 a2 a3 k
 unfold spec_FalseHead.f
 repeat' first
     | (with_reducible exact spec_l01Join.mono _ _ _)
     | (with_reducible exact spec_l03Put.mono _ _ _)
     | (with_reducible exact LeO.refl _)
     | (with_reducible exact LeO.none _)
     | (with_reducible refine LeO.ite ?_ ?_)
     | (with_reducible refine LeO.bind ?_ (fun _ => ?_))
     | exact spec_l01Join.mono _ _ _
     | exact spec_l03Put.mono _ _ _
     | exact LeO.none _
     | refine LeO.ite ?_ ?_
     | refine LeO.bind ?_ (fun _ => ?_)
set_option maxHeartbeats 8000000 in
set_option maxRecDepth 100000 in
theorem spec_FalseHead.calls (k : Nat) (a0 : Int) (a1 : Int) (a2 : Int) (a3 : Int) (r : List Int) (w : World) (h : spec_FalseHead.f k a0 a1 a2 a3 = some r) :
 Calls Try.prog 151 #[.int .i64 a0, .int .i64 a1, .int .i64 a2, .int .i64 a3] w fun e w' => ∃ v0_ : Value, e = .returned (v0_) ∧ Kd.R (Kd.int .u8) 5 w' w.heap.size (fun _ => True) v0_ r ∧ Below w.heap.size w w' := by
 have HB := Aside0.mk (Below.refl w.heap.size w)
 have H : ((spec_l03Put.f k a0 4).bind fun t225 => ((spec_l03Put.f k a1 4).bind fun t228 => ((spec_l01Join.f k t225 t228).bind fun t231 => ((spec_l01Join.f k t231 (([0, (a2) % 256] : List Int))).bind fun t237 => ((spec_l03Put.f k a3 2).bind fun t240 => ((spec_l01Join.f k t237 t240).bind fun t243 => (some t243))))))) = some r := h
 clear h
 replace H := Option.bind_eq_some_iff.mp H
 obtain ⟨t225, A50, H⟩ := H
 replace H : ((spec_l03Put.f k a1 4).bind fun t228 => ((spec_l01Join.f k t225 t228).bind fun t231 => ((spec_l01Join.f k t231 (([0, (a2) % 256] : List Int))).bind fun t237 => ((spec_l03Put.f k a3 2).bind fun t240 => ((spec_l01Join.f k t237 t240).bind fun t243 => (some t243)))))) = some r := H
 have A5 := Aside0.mk A50
 clear A50
 replace H := Option.bind_eq_some_iff.mp H
 obtain ⟨t228, A60, H⟩ := H
 replace H : ((spec_l01Join.f k t225 t228).bind fun t231 => ((spec_l01Join.f k t231 (([0, (a2) % 256] : List Int))).bind fun t237 => ((spec_l03Put.f k a3 2).bind fun t240 => ((spec_l01Join.f k t237 t240).bind fun t243 => (some t243))))) = some r := H
 have A6 := Aside0.mk A60
 clear A60
 replace H := Option.bind_eq_some_iff.mp H
 obtain ⟨t231, A70, H⟩ := H
 replace H : ((spec_l01Join.f k t231 (([0, (a2) % 256] : List Int))).bind fun t237 => ((spec_l03Put.f k a3 2).bind fun t240 => ((spec_l01Join.f k t237 t240).bind fun t243 => (some t243)))) = some r := H
 have A7 := Aside0.mk A70
 clear A70
 obtain ⟨y234, hy234⟩ : ∃ y_ : List Int, y_ = (([0, (a2) % 256] : List Int)) := ⟨_, rfl⟩
 replace H : ((spec_l01Join.f k t231 y234).bind fun t237 => ((spec_l03Put.f k a3 2).bind fun t240 => ((spec_l01Join.f k t237 t240).bind fun t243 => (some t243)))) = some r := by first | (rw [hy234]; with_reducible exact H) | (have H2_ := (Option.bind_some _ _).symm.trans H; rw [hy234]; with_reducible exact H2_) | (have H2_ := (Option.bind_some _ _).symm.trans H; with_reducible exact H2_) | with_reducible exact H | (rw [hy234]; exact H) | exact H
 have Ny234 := Aside0.mk hy234
 clear hy234
 replace H := Option.bind_eq_some_iff.mp H
 obtain ⟨t237, A80, H⟩ := H
 replace H : ((spec_l03Put.f k a3 2).bind fun t240 => ((spec_l01Join.f k t237 t240).bind fun t243 => (some t243))) = some r := H
 have A8 := Aside0.mk A80
 clear A80
 replace H := Option.bind_eq_some_iff.mp H
 obtain ⟨t240, A90, H⟩ := H
 replace H : ((spec_l01Join.f k t237 t240).bind fun t243 => (some t243)) = some r := H
 have A9 := Aside0.mk A90
 clear A90
 replace H := Option.bind_eq_some_iff.mp H
 obtain ⟨t243, A100, H⟩ := H
 replace H : (some t243) = some r := H
 have A10 := Aside0.mk A100
 clear A100
 obtain rfl := Option.some.inj H
 go_enter Try.func151, Try.ntmps151
 go_wp2_with (first | ((with_reducible refine gate_callee (f := 124) rfl ?_); refine goesL_ (some 11) rfl rfl Try.func124 (by kernel_rfl) rfl #[.int .i64 a0, .int .i64 4] rfl wT ?_; (with_reducible refine (spec_l03Put.calls k a0 4 t225 _ A5.out).mono ?_); rintro e w11 ⟨v226, rfl, ho0, hb⟩; refine ⟨_, rfl, ?_⟩; have n0_ := Aside0.mk (Kd.R_lower ho0 (below_size wB)); have n1_ := Aside0.mk (below_step wB hb); clear HB; have HO227 := n0_; have HB := n1_; clear n0_ n1_; (try clear hb); (try clear hb2); (try clear hk); (try clear hi); (try clear ho0)) | ((with_reducible refine gate_callee (f := 124) rfl ?_); refine goesL_ (some 13) rfl rfl Try.func124 (by kernel_rfl) rfl #[.int .i64 a1, .int .i64 4] rfl wT ?_; (with_reducible refine (spec_l03Put.calls k a1 4 t228 _ A6.out).mono ?_); rintro e w12 ⟨v229, rfl, ho0, hb⟩; refine ⟨_, rfl, ?_⟩; have n0_ := Aside0.mk (Kd.R_elder' (Rh HO227) (Kd.R_base ho0) hb); have n1_ := Aside0.mk (Kd.R_lower (Kd.R_new' ho0 (Kd.R_lt (Rh HO227))) (below_size wB)); have n2_ := Aside0.mk (below_step wB hb); clear HO227; clear HB; have HO227 := n0_; have HO230 := n1_; have HB := n2_; clear n0_ n1_ n2_; (try clear hb); (try clear hb2); (try clear hk); (try clear hi); (try clear ho0); obtain ⟨Ao13, co13, eo13⟩ := Kd.R_slice HO227.out; subst eo13; obtain ⟨Ao14, co14, eo14⟩ := Kd.R_slice HO230.out; subst eo14) | ((with_reducible refine gate_callee (f := 119) rfl ?_); refine goesL_ (some 14) rfl rfl Try.func119 (by kernel_rfl) rfl #[.slice Ao13 t225.length co13, .slice Ao14 t228.length co14] rfl wT ?_; (with_reducible refine (spec_l01Join.calls k _ _ t225 _ _ t228 t231 _ ?side1 ?side2 ?side3 ?side4 A7.out).mono ?_); (case side1 => exact Ch HO227); (case side2 => exact (Kd.R_reads' HO227.out).2.1); (case side3 => exact Ch HO230); (case side4 => exact (Kd.R_reads' HO230.out).2.1); rintro e w15 ⟨v232, rfl, ho0, hb⟩; refine ⟨_, rfl, ?_⟩; have n0_ := Aside0.mk (Kd.R_elder' (Rh HO227) (Kd.R_base ho0) hb); have n1_ := Aside0.mk (Kd.R_elder' (Rh HO230) (Kd.R_base ho0) hb); have n2_ := Aside0.mk (Kd.R_lower (Kd.R_new' (Kd.R_new' ho0 (Kd.R_lt (Rh HO227))) (Kd.R_lt (Rh HO230))) (below_size wB)); have n3_ := Aside0.mk (below_step wB hb); clear HO227; clear HO230; clear HB; have HO227 := n0_; have HO230 := n1_; have HO233 := n2_; have HB := n3_; clear n0_ n1_ n2_ n3_; (try clear hb); (try clear hb2); (try clear hk); (try clear hi); (try clear ho0)) | ((with_reducible refine gate_dst (N := 18) rfl ?_); refine Kd.R_lit (Kd.int .u8) _ 5 ?hg (N := 18) ?hd (xs := ([0, (a2) % 256] : List Int)) (inner := [.int .u8 0, .int .u8 ((a2) % 256)]) (ok := fun _ => True) (okp := fun _ => True) ?hr ?hp (fun _ hk => hk) trivial (Below.refl _ _) (Nat.le_refl _) (by simp) ?_; (case hd => rfl); (case hg => rfl); (case hr => first | (go_simp; done) | (go_simp; rfl)); (case hp => exact (Reps.one (show Kd.M (Kd.int .u8) _ _ _ 0 [.int .u8 0] from rfl) (Reps.one (show Kd.M (Kd.int .u8) _ _ _ ((a2) % 256) [.int .u8 ((a2) % 256)] from rfl) (Reps.none _ _)))); intro v235 w16 ho17 hb hg_ hnew_; clear hg_ hnew_; (first | rw [← Ny234.out] at ho17 | (simp only [Int.reduceToNat] at ho17; rw [← Ny234.out] at ho17)); have n0_ := Aside0.mk (Kd.R_elder' (Rh HO227) (Kd.R_base ho17) hb); have n1_ := Aside0.mk (Kd.R_elder' (Rh HO230) (Kd.R_base ho17) hb); have n2_ := Aside0.mk (Kd.R_elder' (Rh HO233) (Kd.R_base ho17) hb); have n3_ := Aside0.mk (Kd.R_lower (Kd.R_new' (Kd.R_new' (Kd.R_new' ho17 (Kd.R_lt (Rh HO227))) (Kd.R_lt (Rh HO230))) (Kd.R_lt (Rh HO233))) (below_size wB)); have n4_ := Aside0.mk (below_step wB hb); clear HO227; clear HO230; clear HO233; clear HB; have HO227 := n0_; have HO230 := n1_; have HO233 := n2_; have HO236 := n3_; have HB := n4_; clear n0_ n1_ n2_ n3_ n4_; clear hb ho17; have n_ := Aside0.mk (Kd.R_mono (ok' := (fun k_ => some k_ ≠ (v235 : Value).ownBlock)) HO233.out (fun k_ hk => hk.2)); clear HO233; have HO233 := n_; clear n_; have n_ := Aside0.mk (Kd.R_mono (ok' := (fun k_ => some k_ ≠ (v232 : Value).ownBlock)) HO236.out (fun k_ hk => hk.2)); clear HO236; have HO236 := n_; clear n_; (try clear HO227); (try clear HO230); obtain ⟨Ao18, co18, eo18⟩ := Kd.R_slice HO233.out; subst eo18; obtain ⟨Ao19, co19, eo19⟩ := Kd.R_slice HO236.out; subst eo19) | ((with_reducible refine gate_callee (f := 119) rfl ?_); refine goesL_ (some 19) rfl rfl Try.func119 (by kernel_rfl) rfl #[.slice Ao18 t231.length co18, .slice Ao19 y234.length co19] rfl wT ?_; (with_reducible refine (spec_l01Join.calls k _ _ t231 _ _ y234 t237 _ ?side1 ?side2 ?side3 ?side4 A8.out).mono ?_); (case side1 => exact Ch HO233); (case side2 => exact (Kd.R_reads' HO233.out).2.1); (case side3 => exact Ch HO236); (case side4 => exact (Kd.R_reads' HO236.out).2.1); rintro e w20 ⟨v238, rfl, ho0, hb⟩; refine ⟨_, rfl, ?_⟩; have n0_ := Aside0.mk (Kd.R_elder' (Rh HO233) (Kd.R_base ho0) hb); have n1_ := Aside0.mk (Kd.R_elder' (Rh HO236) (Kd.R_base ho0) hb); have n2_ := Aside0.mk (Kd.R_lower (Kd.R_new' (Kd.R_new' ho0 (Kd.R_lt (Rh HO233))) (Kd.R_lt (Rh HO236))) (below_size wB)); have n3_ := Aside0.mk (below_step wB hb); clear HO233; clear HO236; clear HB; have HO233 := n0_; have HO236 := n1_; have HO239 := n2_; have HB := n3_; clear n0_ n1_ n2_ n3_; (try clear hb); (try clear hb2); (try clear hk); (try clear hi); (try clear ho0); have n_ := Aside0.mk (Kd.R_mono (ok' := (fun _ => True)) HO239.out (fun k_ hk => trivial)); clear HO239; have HO239 := n_; clear n_; (try clear HO233); (try clear HO236)) | ((with_reducible refine gate_callee (f := 124) rfl ?_); refine goesL_ (some 22) rfl rfl Try.func124 (by kernel_rfl) rfl #[.int .i64 a3, .int .i64 2] rfl wT ?_; (with_reducible refine (spec_l03Put.calls k a3 2 t240 _ A9.out).mono ?_); rintro e w21 ⟨v241, rfl, ho0, hb⟩; refine ⟨_, rfl, ?_⟩; have n0_ := Aside0.mk (Kd.R_elder' (Rh HO239) (Kd.R_base ho0) hb); have n1_ := Aside0.mk (Kd.R_lower (Kd.R_new' ho0 (Kd.R_lt (Rh HO239))) (below_size wB)); have n2_ := Aside0.mk (below_step wB hb); clear HO239; clear HB; have HO239 := n0_; have HO242 := n1_; have HB := n2_; clear n0_ n1_ n2_; (try clear hb); (try clear hb2); (try clear hk); (try clear hi); (try clear ho0); obtain ⟨Ao22, co22, eo22⟩ := Kd.R_slice HO239.out; subst eo22; obtain ⟨Ao23, co23, eo23⟩ := Kd.R_slice HO242.out; subst eo23) | ((with_reducible refine gate_callee (f := 119) rfl ?_); refine goesL_ (some 23) rfl rfl Try.func119 (by kernel_rfl) rfl #[.slice Ao22 t237.length co22, .slice Ao23 t240.length co23] rfl wT ?_; (with_reducible refine (spec_l01Join.calls k _ _ t237 _ _ t240 t243 _ ?side1 ?side2 ?side3 ?side4 A10.out).mono ?_); (case side1 => exact Ch HO239); (case side2 => exact (Kd.R_reads' HO239.out).2.1); (case side3 => exact Ch HO242); (case side4 => exact (Kd.R_reads' HO242.out).2.1); rintro e w24 ⟨v244, rfl, ho0, hb⟩; refine ⟨_, rfl, ?_⟩; have n0_ := Aside0.mk (Kd.R_elder' (Rh HO239) (Kd.R_base ho0) hb); have n1_ := Aside0.mk (Kd.R_elder' (Rh HO242) (Kd.R_base ho0) hb); have n2_ := Aside0.mk (Kd.R_lower (Kd.R_new' (Kd.R_new' ho0 (Kd.R_lt (Rh HO239))) (Kd.R_lt (Rh HO242))) (below_size wB)); have n3_ := Aside0.mk (below_step wB hb); clear HO239; clear HO242; clear HB; have HO239 := n0_; have HO242 := n1_; have HO245 := n2_; have HB := n3_; clear n0_ n1_ n2_ n3_; (try clear hb); (try clear hb2); (try clear hk); (try clear hi); (try clear ho0)))
 go_ret
 exact ⟨_, by first | rfl | (simp [errW_none, errW_some] <;> rfl) | (simp [*, errW_none, errW_some] <;> rfl), Kd.R_mono (Rh HO245) (fun _ hk => trivial), wB⟩

/-! ### spec_l10Sum: function 125 -/
def spec_l10Sum.f (k : Nat) (l0 : List Int) (a1 : Int) (a2 : Int) (a3 : Int) : Option (Int) := (spec_FalseHead.f k a1 a2 a3 (l0.length : Int)).bind fun t246 => ((spec_l01Join.f k t246 l0).bind fun t249 => ((spec_Checksum.f k t249).bind fun t252 => (some t252)))
theorem spec_l10Sum.mono : ∀ a0 a1 a2 a3 k, LeO (spec_l10Sum.f k a0 a1 a2 a3) (spec_l10Sum.f (k + 1) a0 a1 a2 a3) := by
 intro a0 a1 a2 a3 k
 unfold spec_l10Sum.f
 repeat' first
     | (with_reducible exact spec_Checksum.mono _ _)
     | (with_reducible exact spec_FalseHead.mono _ _ _ _ _)
     | (with_reducible exact spec_l01Join.mono _ _ _)
     | (with_reducible exact LeO.refl _)
     | (with_reducible exact LeO.none _)
     | (with_reducible refine LeO.ite ?_ ?_)
     | (with_reducible refine LeO.bind ?_ (fun _ => ?_))
     | exact spec_Checksum.mono _ _
     | exact spec_FalseHead.mono _ _ _ _ _
     | exact spec_l01Join.mono _ _ _
     | exact LeO.none _
     | refine LeO.ite ?_ ?_
     | refine LeO.bind ?_ (fun _ => ?_)
set_option maxHeartbeats 8000000 in
set_option maxRecDepth 100000 in
theorem spec_l10Sum.calls (k : Nat) (A0 : Option Addr) (c0 : Nat) (l0 : List Int) (a1 : Int) (a2 : Int) (a3 : Int) (r : Int) (w : World) (hr0 : Kd.C (Kd.int .u8) w A0 l0.length l0) (hc0 : l0.length ≤ c0) (h : spec_l10Sum.f k l0 a1 a2 a3 = some r) :
 Calls Try.prog 125 #[.slice A0 l0.length c0, .int .i64 a1, .int .i64 a2, .int .i64 a3] w fun e w' => e = .returned (.int .i64 r) ∧ Below w.heap.size w w' := by
 have HR0 := Aside0.mk hr0
 have HC0 := Aside0.mk hc0
 clear hr0 hc0
 have HB := Aside0.mk (Below.refl w.heap.size w)
 have H : ((spec_FalseHead.f k a1 a2 a3 (l0.length : Int)).bind fun t246 => ((spec_l01Join.f k t246 l0).bind fun t249 => ((spec_Checksum.f k t249).bind fun t252 => (some t252)))) = some r := h
 clear h
 replace H := Option.bind_eq_some_iff.mp H
 obtain ⟨t246, A50, H⟩ := H
 replace H : ((spec_l01Join.f k t246 l0).bind fun t249 => ((spec_Checksum.f k t249).bind fun t252 => (some t252))) = some r := H
 have A5 := Aside0.mk A50
 clear A50
 replace H := Option.bind_eq_some_iff.mp H
 obtain ⟨t249, A60, H⟩ := H
 replace H : ((spec_Checksum.f k t249).bind fun t252 => (some t252)) = some r := H
 have A6 := Aside0.mk A60
 clear A60
 replace H := Option.bind_eq_some_iff.mp H
 obtain ⟨t252, A70, H⟩ := H
 replace H : (some t252) = some r := H
 have A7 := Aside0.mk A70
 clear A70
 obtain rfl := Option.some.inj H
 go_enter Try.func125, Try.ntmps125
 go_wp2_with (first | ((with_reducible refine gate_callee (f := 151) rfl ?_); refine goesL_ (some 14) rfl rfl Try.func151 (by kernel_rfl) rfl #[.int .i64 a1, .int .i64 a2, .int .i64 a3, .int .i64 (l0.length : Int)] rfl wT ?_; (with_reducible refine (spec_FalseHead.calls k a1 a2 a3 (l0.length : Int) t246 _ A5.out).mono ?_); rintro e w8 ⟨v247, rfl, ho0, hb⟩; refine ⟨_, rfl, ?_⟩; have n0_ := Aside0.mk (Kd.R_lower ho0 (below_size wB)); have n1_ := Aside0.mk (below_step wB hb); clear HB; have HO248 := n0_; have HB := n1_; clear n0_ n1_; (try clear hb); (try clear hb2); (try clear hk); (try clear hi); (try clear ho0); obtain ⟨Ao9, co9, eo9⟩ := Kd.R_slice HO248.out; subst eo9) | ((with_reducible refine gate_callee (f := 119) rfl ?_); refine goesL_ (some 16) rfl rfl Try.func119 (by kernel_rfl) rfl #[.slice Ao9 t246.length co9, .slice A0 l0.length c0] rfl wT ?_; (with_reducible refine (spec_l01Join.calls k _ _ t246 _ _ l0 t249 _ ?side1 ?side2 ?side3 ?side4 A6.out).mono ?_); (case side1 => exact Ch HO248); (case side2 => exact (Kd.R_reads' HO248.out).2.1); (case side3 => exact Kd.C_below HR0.out wB); (case side4 => exact HC0.out); rintro e w10 ⟨v250, rfl, ho0, hb⟩; refine ⟨_, rfl, ?_⟩; have n0_ := Aside0.mk (Kd.R_elder' (Rh HO248) (Kd.R_base ho0) hb); have n1_ := Aside0.mk (Kd.R_lower (Kd.R_new' ho0 (Kd.R_lt (Rh HO248))) (below_size wB)); have n2_ := Aside0.mk (below_step wB hb); clear HO248; clear HB; have HO248 := n0_; have HO251 := n1_; have HB := n2_; clear n0_ n1_ n2_; (try clear hb); (try clear hb2); (try clear hk); (try clear hi); (try clear ho0); have n_ := Aside0.mk (Kd.R_mono (ok' := (fun _ => True)) HO251.out (fun k_ hk => trivial)); clear HO251; have HO251 := n_; clear n_; (try clear HO248); obtain ⟨Ao11, co11, eo11⟩ := Kd.R_slice HO251.out; subst eo11) | ((with_reducible refine gate_callee (f := 148) rfl ?_); refine goesL_ (some 17) rfl rfl Try.func148 (by kernel_rfl) rfl #[.slice Ao11 t249.length co11] rfl wT ?_; (with_reducible refine (spec_Checksum.calls k _ _ t249 t252 _ ?side1 ?side2 A7.out).mono ?_); (case side1 => exact Ch HO251); (case side2 => exact (Kd.R_reads' HO251.out).2.1); rintro e w' ⟨rfl, ⟨nd, rfl⟩⟩; refine ⟨_, rfl, ?_⟩))
 go_ret
 exact ⟨by first | rfl | (simp [errW_none, errW_some] <;> rfl) | (simp [*, errW_none, errW_some] <;> rfl), wB⟩

end Go.Proofs.Ytobaoffcepmeiaa.PFnExactEncodeSegment
