-- Written for this claim by a program of this session (wip/mkprint.py: the print, turned at a few places). Not trusted: Lean checks it.
import Derived.Test.YtfllcmeakcbiaaaPFnOneBitx0
namespace Go.Proofs.Ytfllcmeakcbiaaa.PFnOneBit
open Go.RowKit Go.Proofs.YtfllcmeakcbiaaaW.PrintWords Go.Proofs.YtfllcmeakcbiaaaW.PrintLast Go.Proofs.YtfllcmeakcbiaaaW.PrintMore
attribute [local go_sem] max2_int min2_int max_two min_two max_three min_three max_four min_four   -- for this text's walks alone
set_option linter.unusedVariables false
set_option linter.unusedSimpArgs false

/-! ### impl_isAddr: function 28 -/
def impl_isAddr.f (a0 : Int) : Option (Bool) := if a0 ≥ 0 then (some (decide (a0 ≤ 4294967295))) else (some false)
set_option maxHeartbeats 60000000 in
set_option maxRecDepth 100000 in
theorem impl_isAddr.calls (a0 : Int) (r : Bool) (w : World) (h : impl_isAddr.f a0 = some r) :
 Calls Try.prog 28 #[.int .i64 a0] w fun e w' => e = .returned (.bool r) ∧ Drawn0 w w' := by
 have H : (if a0 ≥ 0 then (some (decide (a0 ≤ 4294967295))) else (some false)) = some r := h
 clear h
 by_cases c2 : a0 ≥ 0
 {
 rw [if_pos c2] at H
 have c2b0 : decide (0 ≤ a0) = true := decide_eq_true c2
 clear c2
 obtain rfl := Option.some.inj H
 go_enter Try.func28, Try.ntmps28
 go_wp2
 go_ret
 exact ⟨by first | rfl | (simp; done) | (simp [*]; done), by repeat (first | exact Drawn0.refl _ | apply Drawn0.step)⟩
 }
 {
 rw [if_neg c2] at H
 have c2b0 : decide (0 ≤ a0) = false := decide_eq_false c2
 clear c2
 obtain rfl := Option.some.inj H
 go_enter Try.func28, Try.ntmps28
 go_wp2
 go_ret
 exact ⟨by first | rfl | (simp; done) | (simp [*]; done), by repeat (first | exact Drawn0.refl _ | apply Drawn0.step)⟩
 }

/-! ### impl_carried: function 52 -/
def impl_carried.l0 : Nat → Int → Option (Int)
  | 0, _ => none
  | k + 1, x0 => if x0 > 65535 then (impl_carried.l0 k (IntKind.u64.wrap ((x0 / 65536) + (Go.bits .and .u64 x0 65535)))) else (some x0)
def impl_carried.f (k : Nat) (a0 : Int) : Option (Int) := impl_carried.l0 k a0
theorem impl_carried.mono_l : ∀ k, (∀ y0, LeO (impl_carried.l0 k y0) (impl_carried.l0 (k + 1) y0))
  | 0 => fun _ r h => by simp [impl_carried.l0] at h
  | k + 1 => by
    have ih0 := impl_carried.mono_l k
    · intro y0
      unfold impl_carried.l0
      repeat' first
      | (with_reducible exact ih0 _)
      | (with_reducible exact LeO.refl _)
      | (with_reducible exact LeO.none _)
      | (with_reducible refine LeO.ite ?_ ?_)
      | (with_reducible refine LeO.bind ?_ (fun _ => ?_))
      | exact ih0 _
      | exact LeO.none _
      | refine LeO.ite ?_ ?_
      | refine LeO.bind ?_ (fun _ => ?_)
theorem impl_carried.mono : ∀ a0 k, LeO (impl_carried.f k a0) (impl_carried.f (k + 1) a0) := by
 intro a0 k
 have ih0 := impl_carried.mono_l k
 unfold impl_carried.f
 repeat' first
     | (with_reducible exact ih0 _)
     | (with_reducible exact LeO.refl _)
     | (with_reducible exact LeO.none _)
     | (with_reducible refine LeO.ite ?_ ?_)
     | (with_reducible refine LeO.bind ?_ (fun _ => ?_))
     | exact ih0 _
     | exact LeO.none _
     | refine LeO.ite ?_ ?_
     | refine LeO.bind ?_ (fun _ => ?_)
set_option maxHeartbeats 60000000 in
set_option maxRecDepth 100000 in
theorem impl_carried.calls (k : Nat) (a0 : Int) (r : Int) (w : World) (h : impl_carried.f k a0 = some r) :
 Calls Try.prog 52 #[.int .u64 a0] w fun e w' => e = .returned (.int .u64 r) ∧ Drawn0 w w' := by
 have H : (impl_carried.l0 k a0) = some r := h
 clear h
 have H' := Aside0.mk H
 clear H
 go_enter Try.func52, Try.ntmps52
 go_wp2
 go_loopg [0] k (fun kq v0 w' => ∃ (aa : Int), v0 = .int .u64 aa ∧ Aside0 (impl_carried.l0 kq aa = some r) ∧ Aside0 (kq ≤ k) ∧ Drawn0 w w')
 case atStart => exact ⟨(a0), (by first | rfl | (simp; done) | (simp [*]; done)), H', ⟨Nat.le_refl _⟩, by repeat (first | exact Drawn0.refl _ | apply Drawn0.step)⟩
 case round => (
 clear H'
 obtain ⟨aa, rfl, HA, ac, ⟨m1, rfl⟩⟩ := hrel
 cases gk with
 | zero => exact absurd HA.out (by simp [impl_carried.l0])
 | succ k1 => {
 have H := HA.out
 clear HA
 simp only [impl_carried.l0] at H
 by_cases ab : aa > 65535
 {
 rw [if_pos ab] at H
 have c1001b0 : decide (65535 < aa) = true := decide_eq_true ab
 clear ab
 have H' := Aside0.mk H
 clear H
 go_wp2
 go_roundg k1
 case measure => have := ac.out; omega
 case rel => exact ⟨(IntKind.u64.wrap ((aa / 65536) + (Go.bits .and .u64 aa 65535))), (by first | rfl | (simp; done) | (simp [*]; done)), H', ⟨by have := ac.out; omega⟩, by repeat (first | exact Drawn0.refl _ | apply Drawn0.step)⟩
 }
 {
 rw [if_neg ab] at H
 have c1001b0 : decide (65535 < aa) = false := decide_eq_false ab
 clear ab
 obtain rfl := Option.some.inj H
 go_wp2
 go_ret
 exact ⟨by first | rfl | (simp; done) | (simp [*]; done), by repeat (first | exact Drawn0.refl _ | apply Drawn0.step)⟩
 }
 }
 )

/-! ### impl_Checksum: function 29 -/
def impl_Checksum.l0 : Nat → Int → List Int → Int → Int → Option (Int)
  | 0, _, _, _, _ => none
  | k + 1, x3, x6, x7, x8 => if x8 < x7 then (if 0 ≤ x8 then (if x8 < (x6.length : Int) then (if (Int.tmod x8 2) = 0 then (impl_Checksum.l0 k (IntKind.u64.wrap (x3 + (IntKind.u64.wrap ((IntKind.u64.wrap (rd x6 x8)) * 256)))) x6 x7 (wrap64 (x8 + 1))) else (impl_Checksum.l0 k (IntKind.u64.wrap (x3 + (IntKind.u64.wrap (rd x6 x8)))) x6 x7 (wrap64 (x8 + 1)))) else (none)) else (none)) else ((impl_carried.f k x3).bind fun aa => (some (wrap64 (Go.bits .and .u64 (Go.bits .xor .u64 18446744073709551615 aa) 65535))))
def impl_Checksum.f (k : Nat) (l0 : List Int) : Option (Int) := impl_Checksum.l0 k 0 l0 (l0.length : Int) 0
theorem impl_Checksum.mono_l : ∀ k, (∀ y0 y1 y2 y3, LeO (impl_Checksum.l0 k y0 y1 y2 y3) (impl_Checksum.l0 (k + 1) y0 y1 y2 y3))
  | 0 => fun _ _ _ _ r h => by simp [impl_Checksum.l0] at h
  | k + 1 => by
    have ih0 := impl_Checksum.mono_l k
    · intro y0 y1 y2 y3
      unfold impl_Checksum.l0
      repeat' first
      | (with_reducible exact ih0 _ _ _ _)
      | (with_reducible exact impl_carried.mono _ _)
      | (with_reducible exact LeO.refl _)
      | (with_reducible exact LeO.none _)
      | (with_reducible refine LeO.ite ?_ ?_)
      | (with_reducible refine LeO.bind ?_ (fun _ => ?_))
      | exact ih0 _ _ _ _
      | exact impl_carried.mono _ _
      | exact LeO.none _
      | refine LeO.ite ?_ ?_
      | refine LeO.bind ?_ (fun _ => ?_)
theorem impl_Checksum.mono : ∀ a0 k, LeO (impl_Checksum.f k a0) (impl_Checksum.f (k + 1) a0) := by
 intro a0 k
 have ih0 := impl_Checksum.mono_l k
 unfold impl_Checksum.f
 repeat' first
     | (with_reducible exact ih0 _ _ _ _)
     | (with_reducible exact impl_carried.mono _ _)
     | (with_reducible exact LeO.refl _)
     | (with_reducible exact LeO.none _)
     | (with_reducible refine LeO.ite ?_ ?_)
     | (with_reducible refine LeO.bind ?_ (fun _ => ?_))
     | exact ih0 _ _ _ _
     | exact impl_carried.mono _ _
     | exact LeO.none _
     | refine LeO.ite ?_ ?_
     | refine LeO.bind ?_ (fun _ => ?_)
set_option maxHeartbeats 60000000 in
set_option maxRecDepth 100000 in
theorem impl_Checksum.calls (k : Nat) (A0 : Option Addr) (c0 : Nat) (l0 : List Int) (r : Int) (w : World) (hr0 : Kd.C (Kd.int .u8) w A0 l0.length l0) (hc0 : l0.length ≤ c0) (h : impl_Checksum.f k l0 = some r) :
 Calls Try.prog 29 #[.slice A0 l0.length c0] w fun e w' => e = .returned (.int .i64 r) ∧ Drawn0 w w' := by
 have HR0 := Aside0.mk hr0
 have ai := Aside0.mk hc0
 clear hr0 hc0
 have H : (impl_Checksum.l0 k 0 l0 (l0.length : Int) 0) = some r := h
 clear h
 have H' := Aside0.mk H
 clear H
 go_enter Try.func29, Try.ntmps29
 go_wp2
 go_loopg [3, 8] k (fun kq v3 v8 w' => ∃ (ad : Int) (aa : Int), v3 = .int .u64 ad ∧ v8 = .int .i64 aa ∧ Aside0 (impl_Checksum.l0 kq ad l0 (l0.length : Int) aa = some r) ∧ Aside0 (kq ≤ k) ∧ Drawn0 w w')
 case atStart => exact ⟨(0), (0), (by first | rfl | (simp; done) | (simp [*]; done)), (by first | rfl | (simp; done) | (simp [*]; done)), H', ⟨Nat.le_refl _⟩, by repeat (first | exact Drawn0.refl _ | apply Drawn0.step)⟩
 case round => (
 clear H'
 obtain ⟨ad, aa, rfl, rfl, HA, ag, ⟨m1, rfl⟩⟩ := hrel
 cases gk with
 | zero => exact absurd HA.out (by simp [impl_Checksum.l0])
 | succ k1 => {
 have H := HA.out
 clear HA
 simp only [impl_Checksum.l0] at H
 by_cases ac : aa < (l0.length : Int)
 rw [if_pos ac] at H
 have c1001b0 : decide (aa < (l0.length : Int)) = true := decide_eq_true ac
 clear ac
 by_cases ae : 0 ≤ aa
 rw [if_pos ae] at H
 have c1002b0 : decide (0 ≤ aa) = true := decide_eq_true ae
 clear ae
 by_cases af : aa < (l0.length : Int)
 rw [if_pos af] at H
 have c1003b0 : decide (aa < (l0.length : Int)) = true := decide_eq_true af
 clear af
 by_cases ab : (Int.tmod aa 2) = 0
 rw [if_pos ab] at H
 have c1004b0 : ((Int.tmod aa 2) == 0) = true := beq_iff_eq.mpr ab
 have c1004b1 : ((Int.tmod aa 2) != 0) = false := bne_eq_false_iff_eq.mpr ab
 clear ab
 have H' := Aside0.mk H
 clear H
 rotate_left
 rw [if_neg ab] at H
 have c1004b0 : ((Int.tmod aa 2) == 0) = false := beq_eq_false_iff_ne.mpr ab
 have c1004b1 : ((Int.tmod aa 2) != 0) = true := bne_iff_ne.mpr ab
 have H' := Aside0.mk H
 clear H
 rotate_left
 rw [if_neg af] at H
 exact absurd H (by simp)
 rw [if_neg ae] at H
 exact absurd H (by simp)
 rw [if_neg ac] at H
 have c1001b0 : decide (aa < (l0.length : Int)) = false := decide_eq_false ac
 clear ac
 replace H := Option.bind_eq_some_iff.mp H
 obtain ⟨ah, A10050, H⟩ := H
 replace H : (some (wrap64 (Go.bits .and .u64 (Go.bits .xor .u64 18446744073709551615 ah) 65535))) = some r := H
 have A1005 := Aside0.mk A10050
 clear A10050
 obtain rfl := Option.some.inj H
 rotate_left
 iterate 2 (
 focus (
 have p101 : 0 ≤ (aa : Int) := of_decide_eq_true (by first | (with_reducible assumption) | assumption)
 have q101 : aa < (l0.length : Int) := of_decide_eq_true (by first | (with_reducible assumption) | assumption)
 obtain ⟨ad101, e101, hx101_0⟩ := Kd.at_int HR0.out aa p101 q101
 cases e101
 replace p101 := eq_true p101
 replace q101 := eq_true q101
 go_wp2
 go_roundg k1
 case measure => have := ag.out; omega
 )
 rotate_left
 )
 rotate_right 2
 {
 case rel => exact ⟨(IntKind.u64.wrap (ad + (IntKind.u64.wrap ((IntKind.u64.wrap (rd l0 aa)) * 256)))), (wrap64 (aa + 1)), (by first | rfl | (simp; done) | (simp [*]; done)), (by first | rfl | (simp; done) | (simp [*]; done)), H', ⟨by have := ag.out; omega⟩, by repeat (first | exact Drawn0.refl _ | apply Drawn0.step)⟩
 }
 {
 case rel => exact ⟨(IntKind.u64.wrap (ad + (IntKind.u64.wrap (rd l0 aa)))), (wrap64 (aa + 1)), (by first | rfl | (simp; done) | (simp [*]; done)), (by first | rfl | (simp; done) | (simp [*]; done)), H', ⟨by have := ag.out; omega⟩, by repeat (first | exact Drawn0.refl _ | apply Drawn0.step)⟩
 }
 {
 go_wp2_with (first | ((with_reducible refine gate_callee (f := 52) rfl ?_); refine goesL_ (some 27) rfl rfl Try.func52 (by kernel_rfl) rfl #[.int .u64 ad] rfl wT ?_; (with_reducible refine (impl_carried.calls k1 ad ah _ A1005.out).mono ?_); rintro e w' ⟨rfl, ⟨nd, rfl⟩⟩; refine ⟨_, rfl, ?_⟩))
 go_ret
 exact ⟨by first | rfl | (simp; done) | (simp [*]; done), by repeat (first | exact Drawn0.refl _ | apply Drawn0.step)⟩
 }
 }
 )

/-! ### impl_put: function 45 -/
def impl_put.l0 : Nat → List Int → Int → Int → Option (List Int)
  | 0, _, _, _ => none
  | k + 1, x0, x2, x7 => if x7 ≥ 0 then (if 0 ≤ (wrap64 (8 * x7)) then (if x0.length < 140737488355328 then (impl_put.l0 k (x0 ++ [(shr .u64 (IntKind.u64.wrap (x2)) (wrap64 (8 * x7))) % 256]) x2 (wrap64 (x7 - 1))) else (none)) else (none)) else (some x0)
def impl_put.f (k : Nat) (l0 : List Int) (a1 : Int) (a2 : Int) : Option (List Int) := impl_put.l0 k l0 a2 (wrap64 (a1 - 1))
theorem impl_put.mono_l : ∀ k, (∀ y0 y1 y2, LeO (impl_put.l0 k y0 y1 y2) (impl_put.l0 (k + 1) y0 y1 y2))
  | 0 => fun _ _ _ r h => by simp [impl_put.l0] at h
  | k + 1 => by
    have ih0 := impl_put.mono_l k
    · intro y0 y1 y2
      unfold impl_put.l0
      repeat' first
      | (with_reducible exact ih0 _ _ _)
      | (with_reducible exact LeO.refl _)
      | (with_reducible exact LeO.none _)
      | (with_reducible refine LeO.ite ?_ ?_)
      | (with_reducible refine LeO.bind ?_ (fun _ => ?_))
      | exact ih0 _ _ _
      | exact LeO.none _
      | refine LeO.ite ?_ ?_
      | refine LeO.bind ?_ (fun _ => ?_)
theorem impl_put.mono : ∀ a0 a1 a2 k, LeO (impl_put.f k a0 a1 a2) (impl_put.f (k + 1) a0 a1 a2) := by
 intro a0 a1 a2 k
 have ih0 := impl_put.mono_l k
 unfold impl_put.f
 repeat' first
     | (with_reducible exact ih0 _ _ _)
     | (with_reducible exact LeO.refl _)
     | (with_reducible exact LeO.none _)
     | (with_reducible refine LeO.ite ?_ ?_)
     | (with_reducible refine LeO.bind ?_ (fun _ => ?_))
     | exact ih0 _ _ _
     | exact LeO.none _
     | refine LeO.ite ?_ ?_
     | refine LeO.bind ?_ (fun _ => ?_)
set_option maxHeartbeats 60000000 in
set_option maxRecDepth 100000 in
theorem impl_put.calls (k : Nat) (P0_ : Nat → Prop) (u9000_ : Value) (l0 : List Int) (a1 : Int) (a2 : Int) (r : List Int) (w0 w : World) (hB : Below w0.heap.size w0 w) (al : Kd.R (Kd.int .u8) 5 w w0.heap.size P0_ u9000_ l0) (h : impl_put.f k l0 a1 a2 = some r) :
 Calls Try.prog 45 #[u9000_, .int .i64 a1, .int .i64 a2] w fun e w' => ∃ v0_ : Value, e = .returned (v0_) ∧ Kd.R (Kd.int .u8) 5 w' w0.heap.size (fun k_ => (P0_ k_ ∨ w.heap.size ≤ k_)) v0_ r ∧ Below w0.heap.size w0 w' ∧ Kept w w' (fun k_ => P0_ k_) := by
 have am := Aside0.mk (show Kd.R (Kd.int .u8) 5 w w0.heap.size (fun k_ => (P0_ k_ ∨ w.heap.size ≤ k_)) u9000_ l0 from Kd.R_mono al (fun k_ hk => (.inl hk)))
 have HK := Aside0.mk (Kept.refl w (fun k_ => P0_ k_))
 have HW0 := Aside0.mk hB.size
 have HB := Aside0.mk hB
 clear hB
 have H : (impl_put.l0 k l0 a2 (wrap64 (a1 - 1))) = some r := h
 clear h
 have H' := Aside0.mk H
 clear H
 go_enter Try.func45, Try.ntmps45
 go_wp2
 go_loopg [0, 7] k (fun kq v0 v7 w' => ∃ (ac : List Int) (ab : Int), v7 = .int .i64 ab ∧ Aside0 (impl_put.l0 kq ac a2 ab = some r) ∧ Aside0 (kq ≤ k) ∧ Aside0 (Kd.R (Kd.int .u8) 5 w' w0.heap.size (fun k_ => (P0_ k_ ∨ w.heap.size ≤ k_)) v0 ac) ∧ Aside0 (Kept w w' (fun k_ => P0_ k_)) ∧ Aside0 (Below w0.heap.size w0 w'))
 case atStart => exact ⟨(l0), (wrap64 (a1 - 1)), (by first | rfl | (simp; done) | (simp [*]; done)), H', ⟨Nat.le_refl _⟩, ⟨Rh am⟩, ⟨by repeat (first | (with_reducible first | exact HK.out | apply Kept.alloc | apply Kept.drewN | apply Kept.drew) | exact HK.out)⟩, ⟨wB⟩⟩
 case round => (
 clear H'
 obtain ⟨ac, ab, rfl, HA, ak, HO_0, HK, HB⟩ := hrel
 cases gk with
 | zero => exact absurd HA.out (by simp [impl_put.l0])
 | succ k1 => {
 have H := HA.out
 clear HA
 simp only [impl_put.l0] at H
 by_cases ae : ab ≥ 0
 {
 rw [if_pos ae] at H
 have c1001b0 : decide (0 ≤ ab) = true := decide_eq_true ae
 clear ae
 obtain ⟨aa, hji1002⟩ : ∃ j_ : Int, (wrap64 (8 * ab)) = j_ := ⟨_, rfl⟩
 replace H : (if 0 ≤ (aa) then (if ac.length < 140737488355328 then (impl_put.l0 k1 (ac ++ [(shr .u64 (IntKind.u64.wrap (a2)) (aa)) % 256]) a2 (wrap64 (ab - 1))) else (none)) else (none)) = some r := by first | (rw [hji1002] at H; exact H) | (simp only [hji1002] at H ⊢; exact H)
 have hji1002w : (IntKind.i64.wrap (8 * ab)) = aa := (i64_w _).trans hji1002
 by_cases af : 0 ≤ (aa)
 {
 rw [if_pos af] at H
 have c1003b0 := eq_true af
 have c1003b1 : decide (0 ≤ (aa)) = true := decide_eq_true af
 clear af
 obtain ⟨ad, hji1004⟩ : ∃ j_ : Int, (shr .u64 (IntKind.u64.wrap (a2)) (aa)) = j_ := ⟨_, rfl⟩
 replace H : (if ac.length < 140737488355328 then (impl_put.l0 k1 (ac ++ [(ad) % 256]) a2 (wrap64 (ab - 1))) else (none)) = some r := by first | (rw [hji1004] at H; exact H) | (simp only [hji1004] at H ⊢; exact H)
 have hji1004_ : ((IntKind.u64.wrap (a2)) / 2 ^ min (aa).toNat 64) = ad := hji1004
 have hji1004z : (aa) ≤ 64 → ((IntKind.u64.wrap (a2)) / 2 ^ (aa).toNat) = ad := shr_small hji1004
 by_cases ah : ac.length < 140737488355328
 {
 rw [if_pos ah] at H
 have LMc1005 := Aside0.mk ah
 clear ah
 obtain ⟨ai, ag⟩ : ∃ y_ : List Int, y_ = (ac ++ [(ad) % 256]) := ⟨_, rfl⟩
 replace H : (impl_put.l0 k1 ai a2 (wrap64 (ab - 1))) = some r := by first | (rw [ag]; with_reducible exact H) | (have H2_ := (Option.bind_some _ _).symm.trans H; rw [ag]; with_reducible exact H2_) | (have H2_ := (Option.bind_some _ _).symm.trans H; with_reducible exact H2_) | with_reducible exact H | (rw [ag]; exact H) | exact H
 have Ny103 := Aside0.mk ag
 clear ag
 have H' := Aside0.mk H
 clear H
 go_wp2_with (first | ((with_reducible refine gate_builtin (b := .append) (xs := #[.tmp 14, .tmp 21]) rfl ?_); at_builtin; refine Kd.R_append (Kd.int .u8) (w0 := w0) w0.heap.size rfl (.tmp 14) (.tmp 21) 22 5 (.int .u8 0) 1 rfl Try.underlying22 info5 rfl (by decide) (by omega) u0 ac ((ad) % 256) [.int .u8 ((ad) % 256)] (fun k_ => (P0_ k_ ∨ w.heap.size ≤ k_)) (fun _ => False) rfl rfl ?aP (fun _ hk => hk.elim) ?aF ?aO ?aB ?aS ?aL ?_; (case aP => exact rfl); (case aB => exact wB); (case aF => exact (fun k_ hk => (.inr (Nat.le_trans (by first | exact HK.out.1 | exact (show Kept w _ (fun k_ => P0_ k_) from by repeat (first | (with_reducible first | exact HK.out | apply Kept.alloc | apply Kept.drewN | apply Kept.drew) | exact HK.out)).1) hk)))); (case aO => exact (Rh HO_0)); (case aS => exact (below_size wB)); (case aL => have := LMc1005.out; omega); intro ao an ho hb hg hat; rw [← Ny103.out] at ho; replace HB := Aside0.mk (hb); replace HK := Aside0.mk (Kept.of_grown (S := (fun k_ => P0_ k_)) hg (by repeat (first | (with_reducible first | exact HK.out | apply Kept.alloc | apply Kept.drewN | apply Kept.drew) | exact HK.out)) (fun k_ e_ => (HO_0.out.1 k_ e_))); have aj := Aside0.mk (ho); clear HO_0; clear ho hb hg hat))
 go_roundg k1
 case measure => have := ak.out; omega
 case rel => exact ⟨(ai), (wrap64 (ab - 1)), (by first | rfl | (simp; done) | (simp [*]; done)), H', ⟨by have := ak.out; omega⟩, ⟨Rh aj⟩, ⟨by repeat (first | (with_reducible first | exact HK.out | apply Kept.alloc | apply Kept.drewN | apply Kept.drew) | exact HK.out)⟩, ⟨wB⟩⟩
 }
 {
 rw [if_neg ah] at H
 exact absurd H (by simp)
 }
 }
 {
 rw [if_neg af] at H
 exact absurd H (by simp)
 }
 }
 {
 rw [if_neg ae] at H
 have c1001b0 : decide (0 ≤ ab) = false := decide_eq_false ae
 clear ae
 obtain rfl := Option.some.inj H
 go_wp2
 go_ret
 exact ⟨_, by first | rfl | (simp [errW_none, errW_some] <;> rfl) | (simp [*, errW_none, errW_some] <;> rfl), by (with_reducible repeat (first | apply Kd.R_alloc | apply Kd.R_drewN | apply Kd.R_drew)); exact HO_0.out, wB, by repeat (first | (with_reducible first | exact HK.out | apply Kept.alloc | apply Kept.drewN | apply Kept.drew) | exact HK.out)⟩
 }
 }
 )

/-! ### impl_FalseHead: function 30 -/
def impl_FalseHead.f (k : Nat) (a0 : Int) (a1 : Int) (a2 : Int) (a3 : Int) : Option (List Int) := (impl_put.f k ([] : List Int) 4 a0).bind fun t106 => ((impl_put.f k t106 4 a1).bind fun t109 => ((some (([0, (a2) % 256] : List Int) : List Int)).bind fun y112 => (if t109.length + y112.length < 140737488355328 then ((impl_put.f k (t109 ++ y112) 2 a3).bind fun t118 => (some t118)) else (none))))
theorem impl_FalseHead.mono : ∀ a0 a1 a2 a3 k, LeO (impl_FalseHead.f k a0 a1 a2 a3) (impl_FalseHead.f (k + 1) a0 a1 a2 a3) := by
 intro a0 a1 a2 a3 k
 unfold impl_FalseHead.f
 repeat' first
     | (with_reducible exact impl_put.mono _ _ _ _)
     | (with_reducible exact LeO.refl _)
     | (with_reducible exact LeO.none _)
     | (with_reducible refine LeO.ite ?_ ?_)
     | (with_reducible refine LeO.bind ?_ (fun _ => ?_))
     | exact impl_put.mono _ _ _ _
     | exact LeO.none _
     | refine LeO.ite ?_ ?_
     | refine LeO.bind ?_ (fun _ => ?_)
set_option maxHeartbeats 60000000 in
set_option maxRecDepth 100000 in
theorem impl_FalseHead.calls (k : Nat) (a0 : Int) (a1 : Int) (a2 : Int) (a3 : Int) (r : List Int) (w : World) (h : impl_FalseHead.f k a0 a1 a2 a3 = some r) :
 Calls Try.prog 30 #[.int .i64 a0, .int .i64 a1, .int .i64 a2, .int .i64 a3] w fun e w' => ∃ v0_ : Value, e = .returned (v0_) ∧ Kd.R (Kd.int .u8) 5 w' w.heap.size (fun _ => True) v0_ r ∧ Below w.heap.size w w' := by
 have HB := Aside0.mk (Below.refl w.heap.size w)
 have H : ((impl_put.f k ([] : List Int) 4 a0).bind fun ae => ((impl_put.f k ae 4 a1).bind fun ab => ((some (([0, (a2) % 256] : List Int) : List Int)).bind fun aa => (if ab.length + aa.length < 140737488355328 then ((impl_put.f k (ab ++ aa) 2 a3).bind fun ac => (some ac)) else (none))))) = some r := h
 clear h
 replace H := Option.bind_eq_some_iff.mp H
 obtain ⟨ae, A50, H⟩ := H
 replace H : ((impl_put.f k ae 4 a1).bind fun ab => ((some (([0, (a2) % 256] : List Int) : List Int)).bind fun aa => (if ab.length + aa.length < 140737488355328 then ((impl_put.f k (ab ++ aa) 2 a3).bind fun ac => (some ac)) else (none)))) = some r := H
 have A5 := Aside0.mk A50
 clear A50
 replace H := Option.bind_eq_some_iff.mp H
 obtain ⟨ab, A60, H⟩ := H
 replace H : ((some (([0, (a2) % 256] : List Int) : List Int)).bind fun aa => (if ab.length + aa.length < 140737488355328 then ((impl_put.f k (ab ++ aa) 2 a3).bind fun ac => (some ac)) else (none))) = some r := H
 have A6 := Aside0.mk A60
 clear A60
 obtain ⟨aa, ah⟩ : ∃ y_ : List Int, y_ = (([0, (a2) % 256] : List Int)) := ⟨_, rfl⟩
 replace H : (if ab.length + aa.length < 140737488355328 then ((impl_put.f k (ab ++ aa) 2 a3).bind fun ac => (some ac)) else (none)) = some r := by first | (rw [ah]; with_reducible exact H) | (have H2_ := (Option.bind_some _ _).symm.trans H; rw [ah]; with_reducible exact H2_) | (have H2_ := (Option.bind_some _ _).symm.trans H; with_reducible exact H2_) | with_reducible exact H | (rw [ah]; exact H) | exact H
 have Ny112 := Aside0.mk ah
 clear ah
 by_cases c7 : ab.length + aa.length < 140737488355328
 {
 rw [if_pos c7] at H
 have LMc7 := Aside0.mk c7
 clear c7
 obtain ⟨al, ai⟩ : ∃ y_ : List Int, y_ = (ab ++ aa) := ⟨_, rfl⟩
 replace H : ((impl_put.f k al 2 a3).bind fun ac => (some ac)) = some r := by first | (rw [ai]; with_reducible exact H) | (have H2_ := (Option.bind_some _ _).symm.trans H; rw [ai]; with_reducible exact H2_) | (have H2_ := (Option.bind_some _ _).symm.trans H; with_reducible exact H2_) | with_reducible exact H | (rw [ai]; exact H) | exact H
 have Ny115 := Aside0.mk ai
 clear ai
 replace H := Option.bind_eq_some_iff.mp H
 obtain ⟨ac, A80, H⟩ := H
 replace H : (some ac) = some r := H
 have A8 := Aside0.mk A80
 clear A80
 obtain rfl := Option.some.inj H
 go_enter Try.func30, Try.ntmps30
 go_wp2_with (first | ((with_reducible refine gate_callee (f := 45) rfl ?_); refine goesL_ (some 10) rfl rfl Try.func45 (by kernel_rfl) rfl #[.slice none 0 0, .int .i64 4, .int .i64 a0] rfl wT ?_; (refine (impl_put.calls k (fun k_ => some k_ = (.slice none 0 0 : Value).ownBlock) (.slice none 0 0) ([] : List Int) 4 a0 ae w _ ?side1 ?side2 A5.out).mono ?_); (case side1 => repeat (first | (with_reducible first | exact HB.out | apply below_alloc | apply pw_below_drewN | apply below_drew1) | exact HB.out)); (case side2 => exact Kd.R_nil _ _ _ _ _); rintro e aA ⟨aH, rfl, ak, hb, hkp⟩; refine ⟨_, rfl, ?_⟩; have aq := Aside0.mk (Kd.R_mono (ok' := fun k_ => True) ak (fun k_ hk_ => trivial)); replace HB := Aside0.mk (hb); (try clear hb); (try clear hkp); (try clear ak); obtain ⟨am, an, ar⟩ := Kd.R_slice aq.out; subst ar) | ((with_reducible refine gate_callee (f := 45) rfl ?_); refine goesL_ (some 12) rfl rfl Try.func45 (by kernel_rfl) rfl #[.slice am ae.length an, .int .i64 4, .int .i64 a1] rfl wT ?_; (with_reducible refine (impl_put.calls k (fun k_ => some k_ = (.slice am ae.length an : Value).ownBlock) (.slice am ae.length an) ae 4 a1 ab w _ ?side1 ?side2 A6.out).mono ?_); (case side1 => repeat (first | (with_reducible first | exact HB.out | apply below_alloc | apply pw_below_drewN | apply below_drew1) | exact HB.out)); (case side2 => exact Kd.R_tight rfl aq.out); rintro e aC ⟨az, rfl, ak, hb, hkp⟩; refine ⟨_, rfl, ?_⟩; have aj := Aside0.mk (Kd.R_mono (ok' := fun k_ => True) ak (fun k_ hk_ => trivial)); replace HB := Aside0.mk (hb); clear aq; (try clear hb); (try clear hkp); (try clear ak)) | ((with_reducible refine gate_dst (N := 15) rfl ?_); refine Kd.R_lit (Kd.int .u8) _ 5 ?hg (N := 15) ?hd (xs := ([0, (a2) % 256] : List Int)) (inner := [.int .u8 0, .int .u8 ((a2) % 256)]) (ok := fun _ => True) (okp := fun _ => True) ?hr ?hp (fun _ hk => hk) trivial (Below.refl _ _) (Nat.le_refl _) (by simp) ?_; (case hd => rfl); (case hg => rfl); (case hr => first | (go_simp; done) | (go_simp; rfl)); (case hp => exact (Reps.one (show Kd.M (Kd.int .u8) _ _ _ 0 [.int .u8 0] from rfl) (Reps.one (show Kd.M (Kd.int .u8) _ _ _ ((a2) % 256) [.int .u8 ((a2) % 256)] from rfl) (Reps.none _ _)))); intro aI aD ad hb hg_ hnew_; clear hg_ hnew_; (first | rw [← Ny112.out] at ad | (simp only [Int.reduceToNat] at ad; rw [← Ny112.out] at ad)); have af := Aside0.mk (Kd.R_lower (Kd.R_new' ad (Kd.R_lt (Rh aj))) (below_size wB)); replace aj := Aside0.mk (Kd.R_elder' (Rh aj) (Kd.R_base ad) hb); replace HB := Aside0.mk (below_step wB hb); clear hb ad; obtain ⟨au, av, aw⟩ := Kd.R_slice af.out; subst aw) | ((with_reducible refine gate_builtin (b := .append) (xs := #[.tmp 12, .tmp 15]) rfl ?_); at_builtin; refine Kd.R_append_rows (Kd.int .u8) (w0 := w) w.heap.size rfl (.tmp 12) (.tmp 15) 22 5 (.int .u8 0) 1 rfl Try.underlying22 info5 rfl (by decide) (by omega) az ab aa _ _ _ (fun k_ => some k_ ≠ (.slice au aa.length av : Value).ownBlock) (fun _ => False) rfl rfl ?aO ?aR (fun _ _ h => h) (fun _ h => h.elim) ?aF ?aB ?aS ?aL ?_; (case aR => exact Ch af); (case aB => exact wB); (case aF => exact (fun k_ hk => Kd.fresh' (Kd.R_lt (Rh af)) k_ hk)); (case aO => exact (Kd.R_mono (Rh aj) (fun _ hk => hk.2))); (case aS => exact (below_size wB)); (case aL => have := LMc7.out; omega); intro aJ aE ho hb hg hat; rw [← Ny115.out] at ho; replace af := Aside0.mk (Kd.R_after (ok := (fun _ => True)) (Rh af) hg hat); replace HB := Aside0.mk (hb); have ag := Aside0.mk (ho); clear aj; clear ho hb hg hat; have n_ := Aside0.mk (Kd.R_mono (ok' := (fun _ => True)) ag.out (fun k_ hk => trivial)); clear ag; have ag := n_; clear n_; (try clear af); obtain ⟨ao, ap, ax⟩ := Kd.R_slice ag.out; subst ax) | ((with_reducible refine gate_callee (f := 45) rfl ?_); refine goesL_ (some 18) rfl rfl Try.func45 (by kernel_rfl) rfl #[.slice ao al.length ap, .int .i64 2, .int .i64 a3] rfl wT ?_; (with_reducible refine (impl_put.calls k (fun k_ => some k_ = (.slice ao al.length ap : Value).ownBlock) (.slice ao al.length ap) al 2 a3 ac w _ ?side1 ?side2 A8.out).mono ?_); (case side1 => repeat (first | (with_reducible first | exact HB.out | apply below_alloc | apply pw_below_drewN | apply below_drew1) | exact HB.out)); (case side2 => exact Kd.R_tight rfl ag.out); rintro e aG ⟨aK, rfl, ak, hb, hkp⟩; refine ⟨_, rfl, ?_⟩; have ay := Aside0.mk (Kd.R_mono (ok' := fun k_ => True) ak (fun k_ hk_ => trivial)); replace HB := Aside0.mk (hb); clear ag; (try clear hb); (try clear hkp); (try clear ak)))
 go_ret
 exact ⟨_, by first | rfl | (simp [errW_none, errW_some] <;> rfl) | (simp [*, errW_none, errW_some] <;> rfl), by (with_reducible repeat (first | apply Kd.R_alloc | apply Kd.R_drewN | apply Kd.R_drew)); exact ay.out, wB⟩
 }
 {
 rw [if_neg c7] at H
 exact absurd H (by simp)
 }

/-! ### impl_get: function 31 -/
def impl_get.l0 : Nat → Int → List Int → Int → Int → Option (Int)
  | 0, _, _, _, _ => none
  | k + 1, x3, x6, x7, x8 => if x8 < x7 then (if 0 ≤ x8 then (if x8 < (x6.length : Int) then (impl_get.l0 k (Go.bits .or .i64 (wrap64 (x3 * 256)) (wrap64 (rd x6 x8))) x6 x7 (wrap64 (x8 + 1))) else (none)) else (none)) else (some x3)
def impl_get.f (k : Nat) (l0 : List Int) : Option (Int) := impl_get.l0 k 0 l0 (l0.length : Int) 0
theorem impl_get.mono_l : ∀ k, (∀ y0 y1 y2 y3, LeO (impl_get.l0 k y0 y1 y2 y3) (impl_get.l0 (k + 1) y0 y1 y2 y3))
  | 0 => fun _ _ _ _ r h => by simp [impl_get.l0] at h
  | k + 1 => by
    have ih0 := impl_get.mono_l k
    · intro y0 y1 y2 y3
      unfold impl_get.l0
      repeat' first
      | (with_reducible exact ih0 _ _ _ _)
      | (with_reducible exact LeO.refl _)
      | (with_reducible exact LeO.none _)
      | (with_reducible refine LeO.ite ?_ ?_)
      | (with_reducible refine LeO.bind ?_ (fun _ => ?_))
      | exact ih0 _ _ _ _
      | exact LeO.none _
      | refine LeO.ite ?_ ?_
      | refine LeO.bind ?_ (fun _ => ?_)
theorem impl_get.mono : ∀ a0 k, LeO (impl_get.f k a0) (impl_get.f (k + 1) a0) := by
 intro a0 k
 have ih0 := impl_get.mono_l k
 unfold impl_get.f
 repeat' first
     | (with_reducible exact ih0 _ _ _ _)
     | (with_reducible exact LeO.refl _)
     | (with_reducible exact LeO.none _)
     | (with_reducible refine LeO.ite ?_ ?_)
     | (with_reducible refine LeO.bind ?_ (fun _ => ?_))
     | exact ih0 _ _ _ _
     | exact LeO.none _
     | refine LeO.ite ?_ ?_
     | refine LeO.bind ?_ (fun _ => ?_)
set_option maxHeartbeats 60000000 in
set_option maxRecDepth 100000 in
theorem impl_get.calls (k : Nat) (A0 : Option Addr) (c0 : Nat) (l0 : List Int) (r : Int) (w : World) (hr0 : Kd.C (Kd.int .u8) w A0 l0.length l0) (hc0 : l0.length ≤ c0) (h : impl_get.f k l0 = some r) :
 Calls Try.prog 31 #[.slice A0 l0.length c0] w fun e w' => e = .returned (.int .i64 r) ∧ Drawn0 w w' := by
 have HR0 := Aside0.mk hr0
 have ag := Aside0.mk hc0
 clear hr0 hc0
 have H : (impl_get.l0 k 0 l0 (l0.length : Int) 0) = some r := h
 clear h
 have H' := Aside0.mk H
 clear H
 go_enter Try.func31, Try.ntmps31
 go_wp2
 go_loopg [3, 8] k (fun kq v3 v8 w' => ∃ (ae : Int) (aa : Int), v3 = .int .i64 ae ∧ v8 = .int .i64 aa ∧ Aside0 (impl_get.l0 kq ae l0 (l0.length : Int) aa = some r) ∧ Aside0 (kq ≤ k) ∧ Drawn0 w w')
 case atStart => exact ⟨(0), (0), (by first | rfl | (simp; done) | (simp [*]; done)), (by first | rfl | (simp; done) | (simp [*]; done)), H', ⟨Nat.le_refl _⟩, by repeat (first | exact Drawn0.refl _ | apply Drawn0.step)⟩
 case round => (
 clear H'
 obtain ⟨ae, aa, rfl, rfl, HA, af, ⟨m1, rfl⟩⟩ := hrel
 cases gk with
 | zero => exact absurd HA.out (by simp [impl_get.l0])
 | succ k1 => {
 have H := HA.out
 clear HA
 simp only [impl_get.l0] at H
 by_cases ab : aa < (l0.length : Int)
 {
 rw [if_pos ab] at H
 have c1001b0 : decide (aa < (l0.length : Int)) = true := decide_eq_true ab
 clear ab
 by_cases ac : 0 ≤ aa
 {
 rw [if_pos ac] at H
 have c1002b0 : decide (0 ≤ aa) = true := decide_eq_true ac
 clear ac
 by_cases ad : aa < (l0.length : Int)
 {
 rw [if_pos ad] at H
 have c1003b0 : decide (aa < (l0.length : Int)) = true := decide_eq_true ad
 clear ad
 have H' := Aside0.mk H
 clear H
 have p121 : 0 ≤ (aa : Int) := of_decide_eq_true (by first | (with_reducible assumption) | assumption)
 have q121 : aa < (l0.length : Int) := of_decide_eq_true (by first | (with_reducible assumption) | assumption)
 obtain ⟨ad121, e121, hx121_0⟩ := Kd.at_int HR0.out aa p121 q121
 cases e121
 replace p121 := eq_true p121
 replace q121 := eq_true q121
 go_wp2
 go_roundg k1
 case measure => have := af.out; omega
 case rel => exact ⟨(Go.bits .or .i64 (wrap64 (ae * 256)) (wrap64 (rd l0 aa))), (wrap64 (aa + 1)), (by first | rfl | (simp; done) | (simp [*]; done)), (by first | rfl | (simp; done) | (simp [*]; done)), H', ⟨by have := af.out; omega⟩, by repeat (first | exact Drawn0.refl _ | apply Drawn0.step)⟩
 }
 {
 rw [if_neg ad] at H
 exact absurd H (by simp)
 }
 }
 {
 rw [if_neg ac] at H
 exact absurd H (by simp)
 }
 }
 {
 rw [if_neg ab] at H
 have c1001b0 : decide (aa < (l0.length : Int)) = false := decide_eq_false ab
 clear ab
 obtain rfl := Option.some.inj H
 go_wp2
 go_ret
 exact ⟨by first | rfl | (simp; done) | (simp [*]; done), by repeat (first | exact Drawn0.refl _ | apply Drawn0.step)⟩
 }
 }
 )

/-! ### impl_dup: function 32 -/
def impl_dup.f (l0 : List Int) : Option (List Int) := if ([] : List Int).length + l0.length < 140737488355328 then (some (([] : List Int) ++ l0)) else (none)
set_option maxHeartbeats 60000000 in
set_option maxRecDepth 100000 in
theorem impl_dup.calls (A0 : Option Addr) (c0 : Nat) (l0 : List Int) (r : List Int) (w : World) (hr0 : Kd.C (Kd.int .u8) w A0 l0.length l0) (hc0 : l0.length ≤ c0) (h : impl_dup.f l0 = some r) :
 Calls Try.prog 32 #[.slice A0 l0.length c0] w fun e w' => ∃ v0_ : Value, e = .returned (v0_) ∧ Kd.R (Kd.int .u8) 5 w' w.heap.size (fun _ => True) v0_ r ∧ Below w.heap.size w w' := by
 have HR0 := Aside0.mk hr0
 have af := Aside0.mk hc0
 clear hr0 hc0
 have HB := Aside0.mk (Below.refl w.heap.size w)
 have H : (if ([] : List Int).length + l0.length < 140737488355328 then (some (([] : List Int) ++ l0)) else (none)) = some r := h
 clear h
 by_cases c2 : ([] : List Int).length + l0.length < 140737488355328
 {
 rw [if_pos c2] at H
 have LMc2 := Aside0.mk c2
 clear c2
 obtain ⟨ac, aa⟩ : ∃ y_ : List Int, y_ = (([] : List Int) ++ l0) := ⟨_, rfl⟩
 replace H : (some ac) = some r := by first | (rw [aa]; with_reducible exact H) | (have H2_ := (Option.bind_some _ _).symm.trans H; rw [aa]; with_reducible exact H2_) | (have H2_ := (Option.bind_some _ _).symm.trans H; with_reducible exact H2_) | with_reducible exact H | (rw [aa]; exact H) | exact H
 have Ny122 := Aside0.mk aa
 clear aa
 obtain rfl := Option.some.inj H
 go_enter Try.func32, Try.ntmps32
 go_wp2_with (first | ((with_reducible refine gate_builtin (b := .append) (xs := #[.const (.slice none 0 0), .tmp 3]) rfl ?_); at_builtin; refine Kd.R_append_rows (Kd.int .u8) (w0 := w) w.heap.size rfl (.const (.slice none 0 0)) (.tmp 3) 22 5 (.int .u8 0) 1 rfl Try.underlying22 info5 rfl (by decide) (by omega) (.slice none 0 0) ([] : List Int) l0 _ _ _ (fun _ => True) (fun _ => False) rfl rfl ?aO ?aR (fun _ _ h => h) (fun _ h => h.elim) ?aF ?aB ?aS ?aL ?_; (case aR => repeat (first | exact HR0.out | (with_reducible refine Kd.C_alloc ?_ _) | (with_reducible refine Kd.C_drewN ?_ _) | (with_reducible refine Kd.C_drew ?_))); (case aB => exact wB); (case aF => exact (fun _ _ => trivial)); (case aO => exact ((Kd.R_nil _ _ _ _ (fun _ => True)))); (case aS => exact (below_size wB)); (case aL => have := LMc2.out; omega); intro ae ad ho hb hg hat; rw [← Ny122.out] at ho; replace HB := Aside0.mk (hb); have ab := Aside0.mk (ho); clear ho hb hg hat))
 go_ret
 exact ⟨_, by first | rfl | (simp [errW_none, errW_some] <;> rfl) | (simp [*, errW_none, errW_some] <;> rfl), by (with_reducible repeat (first | apply Kd.R_alloc | apply Kd.R_drewN | apply Kd.R_drew)); exact ab.out, wB⟩
 }
 {
 rw [if_neg c2] at H
 exact absurd H (by simp)
 }

end Go.Proofs.Ytfllcmeakcbiaaa.PFnOneBit
