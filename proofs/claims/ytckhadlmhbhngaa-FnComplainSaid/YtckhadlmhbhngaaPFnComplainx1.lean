-- Written for this claim by a program of this session (wip/mkprint.py: the print, turned at a few places). Not trusted: Lean checks it.
import Derived.Test.YtckhadlmhbhngaaPFnComplainx0
namespace Go.Proofs.Ytckhadlmhbhngaa.PFnComplain
open Go.RowKit Go.Proofs.YtckhadlmhbhngaaW.PrintWords Go.Proofs.YtckhadlmhbhngaaW.PrintLast Go.Proofs.YtckhadlmhbhngaaW.PrintMore
attribute [local go_sem] max2_int min2_int max_two min_two max_three min_three max_four min_four   -- for this text's walks alone
set_option linter.unusedVariables false
set_option linter.unusedSimpArgs false

/-! ### impl_carried: function 69 -/
def impl_carried.l0 : Nat → Int → Option (Int)
  | 0, _ => none
  | k + 1, x0 => if x0 > 65535 then (impl_carried.l0 k (IntKind.u64.wrap ((x0 / 65536) + (Go.bits .and .u64 x0 65535)))) else (some x0)
def impl_carried.f (k : Nat) (a0 : Int) : Option (Int) := impl_carried.l0 k a0
theorem impl_carried.mono_l : ∀ k, (∀ y0, LeO (impl_carried.l0 k y0) (impl_carried.l0 (k + 1) y0))
  | 0 => fun _ r h => by simp [impl_carried.l0] at h
  | k + 1 => by
    have ih0 := impl_carried.mono_l k
    · intro y0
      unfold impl_carried.l0
      repeat' first
      | (with_reducible exact ih0 _)
      | (with_reducible exact LeO.refl _)
      | (with_reducible exact LeO.none _)
      | (with_reducible refine LeO.ite ?_ ?_)
      | (with_reducible refine LeO.bind ?_ (fun _ => ?_))
      | exact ih0 _
      | exact LeO.none _
      | refine LeO.ite ?_ ?_
      | refine LeO.bind ?_ (fun _ => ?_)
theorem impl_carried.mono : ∀ a0 k, LeO (impl_carried.f k a0) (impl_carried.f (k + 1) a0) := by
 intro a0 k
 have ih0 := impl_carried.mono_l k
 unfold impl_carried.f
 repeat' first
     | (with_reducible exact ih0 _)
     | (with_reducible exact LeO.refl _)
     | (with_reducible exact LeO.none _)
     | (with_reducible refine LeO.ite ?_ ?_)
     | (with_reducible refine LeO.bind ?_ (fun _ => ?_))
     | exact ih0 _
     | exact LeO.none _
     | refine LeO.ite ?_ ?_
     | refine LeO.bind ?_ (fun _ => ?_)
set_option maxHeartbeats 60000000 in
set_option maxRecDepth 100000 in
theorem impl_carried.calls (k : Nat) (a0 : Int) (r : Int) (w : World) (h : impl_carried.f k a0 = some r) :
 Calls Try.prog 69 #[.int .u64 a0] w fun e w' => e = .returned (.int .u64 r) ∧ Drawn0 w w' := by
 have H : (impl_carried.l0 k a0) = some r := h
 clear h
 have H' := Aside0.mk H
 clear H
 go_enter Try.func69, Try.ntmps69
 go_wp2
 go_loopg [0] k (fun kq v0 w' => ∃ (aa : Int), v0 = .int .u64 aa ∧ Aside0 (impl_carried.l0 kq aa = some r) ∧ Aside0 (kq ≤ k) ∧ Drawn0 w w')
 case atStart => exact ⟨(a0), eS, H', ⟨Nat.le_refl _⟩, by repeat (first | exact Drawn0.refl _ | apply Drawn0.step)⟩
 case round => (
 clear H'
 obtain ⟨aa, rfl, HA, ac, ⟨m1, rfl⟩⟩ := hrel
 cases gk with
 | zero => exact absurd HA.out (by simp [impl_carried.l0])
 | succ k1 => {
 have H := HA.out
 clear HA
 simp only [impl_carried.l0] at H
 by_cases ab : aa > 65535
 {
 rw [if_pos ab] at H
 have c1001b0 : decide (65535 < aa) = true := decide_eq_true ab
 clear ab
 have H' := Aside0.mk H
 clear H
 go_wp2
 go_roundg k1
 case measure => have := ac.out; omega
 case rel => exact ⟨(IntKind.u64.wrap ((aa / 65536) + (Go.bits .and .u64 aa 65535))), eS, H', ⟨by have := ac.out; omega⟩, by repeat (first | exact Drawn0.refl _ | apply Drawn0.step)⟩
 }
 {
 rw [if_neg ab] at H
 have c1001b0 : decide (65535 < aa) = false := decide_eq_false ab
 clear ab
 obtain rfl := Option.some.inj H
 go_wp2
 go_ret
 exact ⟨by first | rfl | (simp; done) | (simp [*]; done), by repeat (first | exact Drawn0.refl _ | apply Drawn0.step)⟩
 }
 }
 )

/-! ### impl_Checksum: function 38 -/
def impl_Checksum.l0 : Nat → Int → List Int → Int → Int → Option (Int)
  | 0, _, _, _, _ => none
  | k + 1, x3, x6, x7, x8 => if x8 < x7 then (if 0 ≤ x8 then (if x8 < (x6.length : Int) then (if (Int.tmod x8 2) = 0 then (impl_Checksum.l0 k (IntKind.u64.wrap (x3 + (IntKind.u64.wrap ((IntKind.u64.wrap (rd x6 x8)) * 256)))) x6 x7 (wrap64 (x8 + 1))) else (impl_Checksum.l0 k (IntKind.u64.wrap (x3 + (IntKind.u64.wrap (rd x6 x8)))) x6 x7 (wrap64 (x8 + 1)))) else (none)) else (none)) else ((impl_carried.f k x3).bind fun aa => (some (wrap64 (Go.bits .and .u64 (Go.bits .xor .u64 18446744073709551615 aa) 65535))))
def impl_Checksum.f (k : Nat) (l0 : List Int) : Option (Int) := impl_Checksum.l0 k 0 l0 (l0.length : Int) 0
theorem impl_Checksum.mono_l : ∀ k, (∀ y0 y1 y2 y3, LeO (impl_Checksum.l0 k y0 y1 y2 y3) (impl_Checksum.l0 (k + 1) y0 y1 y2 y3))
  | 0 => fun _ _ _ _ r h => by simp [impl_Checksum.l0] at h
  | k + 1 => by
    have ih0 := impl_Checksum.mono_l k
    · intro y0 y1 y2 y3
      unfold impl_Checksum.l0
      repeat' first
      | (with_reducible exact ih0 _ _ _ _)
      | (with_reducible exact impl_carried.mono _ _)
      | (with_reducible exact LeO.refl _)
      | (with_reducible exact LeO.none _)
      | (with_reducible refine LeO.ite ?_ ?_)
      | (with_reducible refine LeO.bind ?_ (fun _ => ?_))
      | exact ih0 _ _ _ _
      | exact impl_carried.mono _ _
      | exact LeO.none _
      | refine LeO.ite ?_ ?_
      | refine LeO.bind ?_ (fun _ => ?_)
theorem impl_Checksum.mono : ∀ a0 k, LeO (impl_Checksum.f k a0) (impl_Checksum.f (k + 1) a0) := by
 intro a0 k
 have ih0 := impl_Checksum.mono_l k
 unfold impl_Checksum.f
 repeat' first
     | (with_reducible exact ih0 _ _ _ _)
     | (with_reducible exact impl_carried.mono _ _)
     | (with_reducible exact LeO.refl _)
     | (with_reducible exact LeO.none _)
     | (with_reducible refine LeO.ite ?_ ?_)
     | (with_reducible refine LeO.bind ?_ (fun _ => ?_))
     | exact ih0 _ _ _ _
     | exact impl_carried.mono _ _
     | exact LeO.none _
     | refine LeO.ite ?_ ?_
     | refine LeO.bind ?_ (fun _ => ?_)
set_option maxHeartbeats 60000000 in
set_option maxRecDepth 100000 in
theorem impl_Checksum.calls (k : Nat) (A0 : Option Addr) (c0 : Nat) (l0 : List Int) (r : Int) (w : World) (hr0 : Kd.C (Kd.int .u8) w A0 l0.length l0) (hc0 : l0.length ≤ c0) (h : impl_Checksum.f k l0 = some r) :
 Calls Try.prog 38 #[.slice A0 l0.length c0] w fun e w' => e = .returned (.int .i64 r) ∧ Drawn0 w w' := by
 have HR0 := Aside0.mk hr0
 have ai := Aside0.mk hc0
 clear hr0 hc0
 have H : (impl_Checksum.l0 k 0 l0 (l0.length : Int) 0) = some r := h
 clear h
 have H' := Aside0.mk H
 clear H
 go_enter Try.func38, Try.ntmps38
 go_wp2
 go_loopg [3, 8] k (fun kq v3 v8 w' => ∃ (ad : Int) (aa : Int), v3 = .int .u64 ad ∧ v8 = .int .i64 aa ∧ Aside0 (impl_Checksum.l0 kq ad l0 (l0.length : Int) aa = some r) ∧ Aside0 (kq ≤ k) ∧ Drawn0 w w')
 case atStart => exact ⟨(0), (0), eS, eS, H', ⟨Nat.le_refl _⟩, by repeat (first | exact Drawn0.refl _ | apply Drawn0.step)⟩
 case round => (
 clear H'
 obtain ⟨ad, aa, rfl, rfl, HA, ag, ⟨m1, rfl⟩⟩ := hrel
 cases gk with
 | zero => exact absurd HA.out (by simp [impl_Checksum.l0])
 | succ k1 => {
 have H := HA.out
 clear HA
 simp only [impl_Checksum.l0] at H
 by_cases ac : aa < (l0.length : Int)
 rw [if_pos ac] at H
 have c1001b0 : decide (aa < (l0.length : Int)) = true := decide_eq_true ac
 clear ac
 by_cases ae : 0 ≤ aa
 rw [if_pos ae] at H
 have c1002b0 : decide (0 ≤ aa) = true := decide_eq_true ae
 clear ae
 by_cases af : aa < (l0.length : Int)
 rw [if_pos af] at H
 have c1003b0 : decide (aa < (l0.length : Int)) = true := decide_eq_true af
 clear af
 by_cases ab : (Int.tmod aa 2) = 0
 rw [if_pos ab] at H
 have c1004b0 : ((Int.tmod aa 2) == 0) = true := beq_iff_eq.mpr ab
 have c1004b1 : ((Int.tmod aa 2) != 0) = false := bne_eq_false_iff_eq.mpr ab
 clear ab
 have H' := Aside0.mk H
 clear H
 rotate_left
 rw [if_neg ab] at H
 have c1004b0 : ((Int.tmod aa 2) == 0) = false := beq_eq_false_iff_ne.mpr ab
 have c1004b1 : ((Int.tmod aa 2) != 0) = true := bne_iff_ne.mpr ab
 have H' := Aside0.mk H
 clear H
 rotate_left
 rw [if_neg af] at H
 exact absurd H (by simp)
 rw [if_neg ae] at H
 exact absurd H (by simp)
 rw [if_neg ac] at H
 have c1001b0 : decide (aa < (l0.length : Int)) = false := decide_eq_false ac
 clear ac
 replace H := Option.bind_eq_some_iff.mp H
 obtain ⟨ah, A10050, H⟩ := H
 have A1005 := Aside0.mk A10050
 clear A10050
 obtain rfl := Option.some.inj H
 rotate_left
 iterate 2 (
 focus (
 have p101 : 0 ≤ (aa : Int) := dT
 have q101 : aa < (l0.length : Int) := dT
 obtain ⟨ad101, e101, hx101_0⟩ := Kd.at_int HR0.out aa p101 q101
 cases e101
 replace p101 := eq_true p101
 replace q101 := eq_true q101
 go_wp2
 go_roundg k1
 case measure => have := ag.out; omega
 )
 rotate_left
 )
 rotate_right 2
 {
 case rel => exact ⟨(IntKind.u64.wrap (ad + (IntKind.u64.wrap ((IntKind.u64.wrap (rd l0 aa)) * 256)))), (wrap64 (aa + 1)), eS, eS, H', ⟨by have := ag.out; omega⟩, by repeat (first | exact Drawn0.refl _ | apply Drawn0.step)⟩
 }
 {
 case rel => exact ⟨(IntKind.u64.wrap (ad + (IntKind.u64.wrap (rd l0 aa)))), (wrap64 (aa + 1)), eS, eS, H', ⟨by have := ag.out; omega⟩, by repeat (first | exact Drawn0.refl _ | apply Drawn0.step)⟩
 }
 {
 go_wp2_with (first | ((with_reducible refine gate_callee (f := 69) rfl ?_); refine gL (some 27) Try.func69 #[.int .u64 ad] ?_; (with_reducible refine (impl_carried.calls k1 ad ah _ A1005.out).mono ?_); rintro e w' ⟨rfl, ⟨nd, rfl⟩⟩; refine ⟨_, rfl, ?_⟩))
 go_ret
 exact ⟨by first | rfl | (simp; done) | (simp [*]; done), by repeat (first | exact Drawn0.refl _ | apply Drawn0.step)⟩
 }
 }
 )

/-! ### impl_get: function 39 -/
def impl_get.l0 : Nat → Int → List Int → Int → Int → Option (Int)
  | 0, _, _, _, _ => none
  | k + 1, x3, x6, x7, x8 => if x8 < x7 then (if 0 ≤ x8 then (if x8 < (x6.length : Int) then (impl_get.l0 k (Go.bits .or .i64 (wrap64 (x3 * 256)) (wrap64 (rd x6 x8))) x6 x7 (wrap64 (x8 + 1))) else (none)) else (none)) else (some x3)
def impl_get.f (k : Nat) (l0 : List Int) : Option (Int) := impl_get.l0 k 0 l0 (l0.length : Int) 0
theorem impl_get.mono_l : ∀ k, (∀ y0 y1 y2 y3, LeO (impl_get.l0 k y0 y1 y2 y3) (impl_get.l0 (k + 1) y0 y1 y2 y3))
  | 0 => fun _ _ _ _ r h => by simp [impl_get.l0] at h
  | k + 1 => by
    have ih0 := impl_get.mono_l k
    · intro y0 y1 y2 y3
      unfold impl_get.l0
      repeat' first
      | (with_reducible exact ih0 _ _ _ _)
      | (with_reducible exact LeO.refl _)
      | (with_reducible exact LeO.none _)
      | (with_reducible refine LeO.ite ?_ ?_)
      | (with_reducible refine LeO.bind ?_ (fun _ => ?_))
      | exact ih0 _ _ _ _
      | exact LeO.none _
      | refine LeO.ite ?_ ?_
      | refine LeO.bind ?_ (fun _ => ?_)
theorem impl_get.mono : ∀ a0 k, LeO (impl_get.f k a0) (impl_get.f (k + 1) a0) := by
 intro a0 k
 have ih0 := impl_get.mono_l k
 unfold impl_get.f
 repeat' first
     | (with_reducible exact ih0 _ _ _ _)
     | (with_reducible exact LeO.refl _)
     | (with_reducible exact LeO.none _)
     | (with_reducible refine LeO.ite ?_ ?_)
     | (with_reducible refine LeO.bind ?_ (fun _ => ?_))
     | exact ih0 _ _ _ _
     | exact LeO.none _
     | refine LeO.ite ?_ ?_
     | refine LeO.bind ?_ (fun _ => ?_)
set_option maxHeartbeats 60000000 in
set_option maxRecDepth 100000 in
theorem impl_get.calls (k : Nat) (A0 : Option Addr) (c0 : Nat) (l0 : List Int) (r : Int) (w : World) (hr0 : Kd.C (Kd.int .u8) w A0 l0.length l0) (hc0 : l0.length ≤ c0) (h : impl_get.f k l0 = some r) :
 Calls Try.prog 39 #[.slice A0 l0.length c0] w fun e w' => e = .returned (.int .i64 r) ∧ Drawn0 w w' := by
 have HR0 := Aside0.mk hr0
 have ag := Aside0.mk hc0
 clear hr0 hc0
 have H : (impl_get.l0 k 0 l0 (l0.length : Int) 0) = some r := h
 clear h
 have H' := Aside0.mk H
 clear H
 go_enter Try.func39, Try.ntmps39
 go_wp2
 go_loopg [3, 8] k (fun kq v3 v8 w' => ∃ (ae : Int) (aa : Int), v3 = .int .i64 ae ∧ v8 = .int .i64 aa ∧ Aside0 (impl_get.l0 kq ae l0 (l0.length : Int) aa = some r) ∧ Aside0 (kq ≤ k) ∧ Drawn0 w w')
 case atStart => exact ⟨(0), (0), eS, eS, H', ⟨Nat.le_refl _⟩, by repeat (first | exact Drawn0.refl _ | apply Drawn0.step)⟩
 case round => (
 clear H'
 obtain ⟨ae, aa, rfl, rfl, HA, af, ⟨m1, rfl⟩⟩ := hrel
 cases gk with
 | zero => exact absurd HA.out (by simp [impl_get.l0])
 | succ k1 => {
 have H := HA.out
 clear HA
 simp only [impl_get.l0] at H
 by_cases ab : aa < (l0.length : Int)
 {
 rw [if_pos ab] at H
 have c1001b0 : decide (aa < (l0.length : Int)) = true := decide_eq_true ab
 clear ab
 by_cases ac : 0 ≤ aa
 {
 rw [if_pos ac] at H
 have c1002b0 : decide (0 ≤ aa) = true := decide_eq_true ac
 clear ac
 by_cases ad : aa < (l0.length : Int)
 {
 rw [if_pos ad] at H
 have c1003b0 : decide (aa < (l0.length : Int)) = true := decide_eq_true ad
 clear ad
 have H' := Aside0.mk H
 clear H
 have p103 : 0 ≤ (aa : Int) := dT
 have q103 : aa < (l0.length : Int) := dT
 obtain ⟨ad103, e103, hx103_0⟩ := Kd.at_int HR0.out aa p103 q103
 cases e103
 replace p103 := eq_true p103
 replace q103 := eq_true q103
 go_wp2
 go_roundg k1
 case measure => have := af.out; omega
 case rel => exact ⟨(Go.bits .or .i64 (wrap64 (ae * 256)) (wrap64 (rd l0 aa))), (wrap64 (aa + 1)), eS, eS, H', ⟨by have := af.out; omega⟩, by repeat (first | exact Drawn0.refl _ | apply Drawn0.step)⟩
 }
 {
 rw [if_neg ad] at H
 exact absurd H (by simp)
 }
 }
 {
 rw [if_neg ac] at H
 exact absurd H (by simp)
 }
 }
 {
 rw [if_neg ab] at H
 have c1001b0 : decide (aa < (l0.length : Int)) = false := decide_eq_false ab
 clear ab
 obtain rfl := Option.some.inj H
 go_wp2
 go_ret
 exact ⟨by first | rfl | (simp; done) | (simp [*]; done), by repeat (first | exact Drawn0.refl _ | apply Drawn0.step)⟩
 }
 }
 )

/-! ### impl_dup: function 40 -/
def impl_dup.f (l0 : List Int) : Option (List Int) := if ([] : List Int).length + l0.length < 140737488355328 then (some (([] : List Int) ++ l0)) else (none)
set_option maxHeartbeats 60000000 in
set_option maxRecDepth 100000 in
theorem impl_dup.calls (A0 : Option Addr) (c0 : Nat) (l0 : List Int) (r : List Int) (w : World) (hr0 : Kd.C (Kd.int .u8) w A0 l0.length l0) (hc0 : l0.length ≤ c0) (h : impl_dup.f l0 = some r) :
 Calls Try.prog 40 #[.slice A0 l0.length c0] w fun e w' => ∃ v0_ : Value, e = .returned (v0_) ∧ Kd.R (Kd.int .u8) 5 w' w.heap.size (fun _ => True) v0_ r ∧ Below w.heap.size w w' := by
 have HR0 := Aside0.mk hr0
 have af := Aside0.mk hc0
 clear hr0 hc0
 have HB := Aside0.mk (Below.refl w.heap.size w)
 have H : (if ([] : List Int).length + l0.length < 140737488355328 then (some (([] : List Int) ++ l0)) else (none)) = some r := h
 clear h
 by_cases c2 : ([] : List Int).length + l0.length < 140737488355328
 {
 rw [if_pos c2] at H
 have LMc2 := Aside0.mk c2
 clear c2
 obtain ⟨ac, aa⟩ : ∃ y_ : List Int, y_ = (([] : List Int) ++ l0) := ⟨_, rfl⟩
 replace H : (some ac) = some r := by first | (rw [aa]; with_reducible exact H) | (have H2_ := (Option.bind_some _ _).symm.trans H; rw [aa]; with_reducible exact H2_) | (have H2_ := (Option.bind_some _ _).symm.trans H; with_reducible exact H2_) | with_reducible exact H | (rw [aa]; exact H) | exact H
 have Ny104 := Aside0.mk aa
 clear aa
 obtain rfl := Option.some.inj H
 go_enter Try.func40, Try.ntmps40
 go_wp2_with (first | ((with_reducible refine gate_builtin (b := .append) (xs := #[.const (.slice none 0 0), .tmp 3]) rfl ?_); at_builtin; refine Kd.R_append_rows (Kd.int .u8) (w0 := w) w.heap.size rfl (.const (.slice none 0 0)) (.tmp 3) 22 5 (.int .u8 0) 1 rfl Try.underlying22 info5 rfl (by decide) (by omega) (.slice none 0 0) ([] : List Int) l0 _ _ _ (fun _ => True) (fun _ => False) rfl rfl ?aO ?aR (fun _ _ h => h) (fun _ h => h.elim) ?aF ?aB ?aS ?aL ?_; (case aR => repeat (first | exact HR0.out | (with_reducible refine Kd.C_alloc ?_ _) | (with_reducible refine Kd.C_drewN ?_ _) | (with_reducible refine Kd.C_drew ?_))); (case aB => exact wB); (case aF => exact (fun _ _ => trivial)); (case aO => exact ((Kd.R_nil _ _ _ _ (fun _ => True)))); (case aS => exact (below_size wB)); (case aL => have := LMc2.out; omega); intro ae ad ho hb hg hat; rw [← Ny104.out] at ho; replace HB := Aside0.mk (hb); have ab := Aside0.mk (ho); clear ho hb hg hat))
 go_ret
 exact ⟨_, eR, by (with_reducible repeat (first | apply Kd.R_alloc | apply Kd.R_drewN | apply Kd.R_drew)); exact ab.out, wB⟩
 }
 {
 rw [if_neg c2] at H
 exact absurd H (by simp)
 }

end Go.Proofs.Ytckhadlmhbhngaa.PFnComplain
