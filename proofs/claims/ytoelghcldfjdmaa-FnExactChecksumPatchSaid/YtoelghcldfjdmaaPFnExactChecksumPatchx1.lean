-- Written for this claim by a program of this session (wip/mkprint.py: the print, turned at a few places). Not trusted: Lean checks it.
import Derived.Test.YtoelghcldfjdmaaPFnExactChecksumPatchx0
namespace Go.Proofs.Ytoelghcldfjdmaa.PFnExactChecksumPatch
open Go.RowKit Go.Proofs.YtoelghcldfjdmaaW.PrintWords Go.Proofs.YtoelghcldfjdmaaW.PrintLast Go.Proofs.YtoelghcldfjdmaaW.PrintMore
attribute [local go_sem] max2_int min2_int max_two min_two max_three min_three max_four min_four   -- for this text's walks alone
set_option linter.unusedVariables false
set_option linter.unusedSimpArgs false

/-! ### spec_ChecksumPatch: function 24 -/
def spec_ChecksumPatch.l0 : Nat → Int → Option (Int)
  | 0, _ => none
  | k + 1, x7 => if x7 > 65535 then (spec_ChecksumPatch.l0 k (wrap64 (x7 - 65535))) else (some (wrap64 (65535 - x7)))
def spec_ChecksumPatch.f (k : Nat) (a0 : Int) (a1 : Int) (a2 : Int) : Option (Int) := spec_ChecksumPatch.l0 k (wrap64 ((wrap64 ((wrap64 (65535 - (Go.bits .and .i64 a0 65535))) + (wrap64 (65535 - (Go.bits .and .i64 a1 65535))))) + (Go.bits .and .i64 a2 65535)))
theorem spec_ChecksumPatch.mono_l : ∀ k, (∀ y0, LeO (spec_ChecksumPatch.l0 k y0) (spec_ChecksumPatch.l0 (k + 1) y0))
  | 0 => fun _ r h => by simp [spec_ChecksumPatch.l0] at h
  | k + 1 => by
    have ih0 := spec_ChecksumPatch.mono_l k
    · intro y0
      unfold spec_ChecksumPatch.l0
      repeat' first
      | (with_reducible exact ih0 _)
      | (with_reducible exact LeO.refl _)
      | (with_reducible exact LeO.none _)
      | (with_reducible refine LeO.ite ?_ ?_)
      | (with_reducible refine LeO.bind ?_ (fun _ => ?_))
      | exact ih0 _
      | exact LeO.none _
      | refine LeO.ite ?_ ?_
      | refine LeO.bind ?_ (fun _ => ?_)
theorem spec_ChecksumPatch.mono : ∀ a0 a1 a2 k, LeO (spec_ChecksumPatch.f k a0 a1 a2) (spec_ChecksumPatch.f (k + 1) a0 a1 a2) := by
  intro a0 a1 a2 k
  have ih0 := spec_ChecksumPatch.mono_l k
  unfold spec_ChecksumPatch.f
  repeat' first
      | (with_reducible exact ih0 _)
      | (with_reducible exact LeO.refl _)
      | (with_reducible exact LeO.none _)
      | (with_reducible refine LeO.ite ?_ ?_)
      | (with_reducible refine LeO.bind ?_ (fun _ => ?_))
      | exact ih0 _
      | exact LeO.none _
      | refine LeO.ite ?_ ?_
      | refine LeO.bind ?_ (fun _ => ?_)
set_option maxHeartbeats 8000000 in
set_option maxRecDepth 100000 in
theorem spec_ChecksumPatch.calls (k : Nat) (a0 : Int) (a1 : Int) (a2 : Int) (r : Int) (w : World) (h : spec_ChecksumPatch.f k a0 a1 a2 = some r) :
    Calls Try.prog 24 #[.int .i64 a0, .int .i64 a1, .int .i64 a2] w fun e w' => e = .returned (.int .i64 r) ∧ Drawn0 w w' := by
  have H : (spec_ChecksumPatch.l0 k (wrap64 ((wrap64 ((wrap64 (65535 - (Go.bits .and .i64 a0 65535))) + (wrap64 (65535 - (Go.bits .and .i64 a1 65535))))) + (Go.bits .and .i64 a2 65535)))) = some r := h
  clear h
  have H' := Aside0.mk H
  clear H
  go_enter Try.func24, Try.ntmps24
  go_wp2
  go_loopg [7] k (fun kq v7 w' => ∃ (x7_1 : Int), v7 = .int .i64 x7_1 ∧ Aside0 (spec_ChecksumPatch.l0 kq x7_1 = some r) ∧ Aside0 (kq ≤ k) ∧ Drawn0 w w')
  case atStart => exact ⟨(wrap64 ((wrap64 ((wrap64 (65535 - (Go.bits .and .i64 a0 65535))) + (wrap64 (65535 - (Go.bits .and .i64 a1 65535))))) + (Go.bits .and .i64 a2 65535))), (by first | rfl | (simp; done) | (simp [*]; done)), H', ⟨Nat.le_refl _⟩, by repeat (first | exact Drawn0.refl _ | apply Drawn0.step)⟩
  case round =>
    clear H'
    try clear c2
    try clear p2
    obtain ⟨x7_1, rfl, HA, HK1, ⟨m1, rfl⟩⟩ := hrel
    cases gk with
    | zero => exact absurd HA.out (by simp [spec_ChecksumPatch.l0])
    | succ k1 =>
      have H := HA.out
      clear HA
      simp only [spec_ChecksumPatch.l0] at H
      by_cases c4 : x7_1 > 65535
      · rw [if_pos c4] at H
        have c4b0 : decide (65535 < x7_1) = true := decide_eq_true c4
        clear c4
        have H' := Aside0.mk H
        clear H
        go_wp2
        go_roundg k1
        case measure => have := HK1.out; omega
        case rel => exact ⟨(wrap64 (x7_1 - 65535)), (by first | rfl | (simp; done) | (simp [*]; done)), H', ⟨by have := HK1.out; omega⟩, by repeat (first | exact Drawn0.refl _ | apply Drawn0.step)⟩
      · rw [if_neg c4] at H
        have c4b0 : decide (65535 < x7_1) = false := decide_eq_false c4
        clear c4
        obtain rfl := Option.some.inj H
        go_wp2
        go_ret
        exact ⟨by first | rfl | (simp; done) | (simp [*]; done), by repeat (first | exact Drawn0.refl _ | apply Drawn0.step)⟩

/-! ### impl_carried: function 37 -/
def impl_carried.l0 : Nat → Int → Option (Int)
  | 0, _ => none
  | k + 1, x0 => if x0 > 65535 then (impl_carried.l0 k (IntKind.u64.wrap ((x0 / 65536) + (Go.bits .and .u64 x0 65535)))) else (some x0)
def impl_carried.f (k : Nat) (a0 : Int) : Option (Int) := impl_carried.l0 k a0
theorem impl_carried.mono_l : ∀ k, (∀ y0, LeO (impl_carried.l0 k y0) (impl_carried.l0 (k + 1) y0))
  | 0 => fun _ r h => by simp [impl_carried.l0] at h
  | k + 1 => by
    have ih0 := impl_carried.mono_l k
    · intro y0
      unfold impl_carried.l0
      repeat' first
      | (with_reducible exact ih0 _)
      | (with_reducible exact LeO.refl _)
      | (with_reducible exact LeO.none _)
      | (with_reducible refine LeO.ite ?_ ?_)
      | (with_reducible refine LeO.bind ?_ (fun _ => ?_))
      | exact ih0 _
      | exact LeO.none _
      | refine LeO.ite ?_ ?_
      | refine LeO.bind ?_ (fun _ => ?_)
theorem impl_carried.mono : ∀ a0 k, LeO (impl_carried.f k a0) (impl_carried.f (k + 1) a0) := by
  intro a0 k
  have ih0 := impl_carried.mono_l k
  unfold impl_carried.f
  repeat' first
      | (with_reducible exact ih0 _)
      | (with_reducible exact LeO.refl _)
      | (with_reducible exact LeO.none _)
      | (with_reducible refine LeO.ite ?_ ?_)
      | (with_reducible refine LeO.bind ?_ (fun _ => ?_))
      | exact ih0 _
      | exact LeO.none _
      | refine LeO.ite ?_ ?_
      | refine LeO.bind ?_ (fun _ => ?_)
set_option maxHeartbeats 8000000 in
set_option maxRecDepth 100000 in
theorem impl_carried.calls (k : Nat) (a0 : Int) (r : Int) (w : World) (h : impl_carried.f k a0 = some r) :
    Calls Try.prog 37 #[.int .u64 a0] w fun e w' => e = .returned (.int .u64 r) ∧ Drawn0 w w' := by
  have H : (impl_carried.l0 k a0) = some r := h
  clear h
  have H' := Aside0.mk H
  clear H
  go_enter Try.func37, Try.ntmps37
  go_wp2
  go_loopg [0] k (fun kq v0 w' => ∃ (x0_1 : Int), v0 = .int .u64 x0_1 ∧ Aside0 (impl_carried.l0 kq x0_1 = some r) ∧ Aside0 (kq ≤ k) ∧ Drawn0 w w')
  case atStart => exact ⟨(a0), (by first | rfl | (simp; done) | (simp [*]; done)), H', ⟨Nat.le_refl _⟩, by repeat (first | exact Drawn0.refl _ | apply Drawn0.step)⟩
  case round =>
    clear H'
    obtain ⟨x0_1, rfl, HA, HK1, ⟨m1, rfl⟩⟩ := hrel
    cases gk with
    | zero => exact absurd HA.out (by simp [impl_carried.l0])
    | succ k1 =>
      have H := HA.out
      clear HA
      simp only [impl_carried.l0] at H
      by_cases c2 : x0_1 > 65535
      · rw [if_pos c2] at H
        have c2b0 : decide (65535 < x0_1) = true := decide_eq_true c2
        clear c2
        have H' := Aside0.mk H
        clear H
        go_wp2
        go_roundg k1
        case measure => have := HK1.out; omega
        case rel => exact ⟨(IntKind.u64.wrap ((x0_1 / 65536) + (Go.bits .and .u64 x0_1 65535))), (by first | rfl | (simp; done) | (simp [*]; done)), H', ⟨by have := HK1.out; omega⟩, by repeat (first | exact Drawn0.refl _ | apply Drawn0.step)⟩
      · rw [if_neg c2] at H
        have c2b0 : decide (65535 < x0_1) = false := decide_eq_false c2
        clear c2
        obtain rfl := Option.some.inj H
        go_wp2
        go_ret
        exact ⟨by first | rfl | (simp; done) | (simp [*]; done), by repeat (first | exact Drawn0.refl _ | apply Drawn0.step)⟩

/-! ### impl_ChecksumPatch: function 25 -/
def impl_ChecksumPatch.f (k : Nat) (a0 : Int) (a1 : Int) (a2 : Int) : Option (Int) := (impl_carried.f k (IntKind.u64.wrap ((IntKind.u64.wrap ((IntKind.u64.wrap (Go.bits .and .i64 (Go.bits .xor .i64 (-1) a0) 65535)) + (IntKind.u64.wrap (Go.bits .and .i64 (Go.bits .xor .i64 (-1) a1) 65535)))) + (IntKind.u64.wrap (Go.bits .and .i64 a2 65535))))).bind fun t101 => (some (wrap64 (Go.bits .and .u64 (Go.bits .xor .u64 18446744073709551615 t101) 65535)))
theorem impl_ChecksumPatch.mono : ∀ a0 a1 a2 k, LeO (impl_ChecksumPatch.f k a0 a1 a2) (impl_ChecksumPatch.f (k + 1) a0 a1 a2) := by
  intro a0 a1 a2 k
  unfold impl_ChecksumPatch.f
  repeat' first
      | (with_reducible exact impl_carried.mono _ _)
      | (with_reducible exact LeO.refl _)
      | (with_reducible exact LeO.none _)
      | (with_reducible refine LeO.ite ?_ ?_)
      | (with_reducible refine LeO.bind ?_ (fun _ => ?_))
      | exact impl_carried.mono _ _
      | exact LeO.none _
      | refine LeO.ite ?_ ?_
      | refine LeO.bind ?_ (fun _ => ?_)
set_option maxHeartbeats 8000000 in
set_option maxRecDepth 100000 in
theorem impl_ChecksumPatch.calls (k : Nat) (a0 : Int) (a1 : Int) (a2 : Int) (r : Int) (w : World) (h : impl_ChecksumPatch.f k a0 a1 a2 = some r) :
    Calls Try.prog 25 #[.int .i64 a0, .int .i64 a1, .int .i64 a2] w fun e w' => e = .returned (.int .i64 r) ∧ Drawn0 w w' := by
  have H : ((impl_carried.f k (IntKind.u64.wrap ((IntKind.u64.wrap ((IntKind.u64.wrap (Go.bits .and .i64 (Go.bits .xor .i64 (-1) a0) 65535)) + (IntKind.u64.wrap (Go.bits .and .i64 (Go.bits .xor .i64 (-1) a1) 65535)))) + (IntKind.u64.wrap (Go.bits .and .i64 a2 65535))))).bind fun t101 => (some (wrap64 (Go.bits .and .u64 (Go.bits .xor .u64 18446744073709551615 t101) 65535)))) = some r := h
  clear h
  replace H := Option.bind_eq_some_iff.mp H
  obtain ⟨t101, A40, H⟩ := H
  replace H : (some (wrap64 (Go.bits .and .u64 (Go.bits .xor .u64 18446744073709551615 t101) 65535))) = some r := H
  have A4 := Aside0.mk A40
  clear A40
  obtain rfl := Option.some.inj H
  go_enter Try.func25, Try.ntmps25
  go_wp2_with (first | ((with_reducible refine gate_callee (f := 37) rfl ?_); refine goesL_ (some 22) rfl rfl Try.func37 (by kernel_rfl) rfl #[.int .u64 (IntKind.u64.wrap ((IntKind.u64.wrap ((IntKind.u64.wrap (Go.bits .and .i64 (Go.bits .xor .i64 (-1) a0) 65535)) + (IntKind.u64.wrap (Go.bits .and .i64 (Go.bits .xor .i64 (-1) a1) 65535)))) + (IntKind.u64.wrap (Go.bits .and .i64 a2 65535))))] rfl (by (try simp only [List.map_toArray, List.map_cons, List.map_nil]); first | done | rfl | (simp only [List.length_drop, List.length_take]; rfl)) ?_; (with_reducible refine (impl_carried.calls k (IntKind.u64.wrap ((IntKind.u64.wrap ((IntKind.u64.wrap (Go.bits .and .i64 (Go.bits .xor .i64 (-1) a0) 65535)) + (IntKind.u64.wrap (Go.bits .and .i64 (Go.bits .xor .i64 (-1) a1) 65535)))) + (IntKind.u64.wrap (Go.bits .and .i64 a2 65535)))) t101 _ A4.out).mono ?_); rintro e w' ⟨rfl, ⟨nd, rfl⟩⟩; refine ⟨_, rfl, ?_⟩))
  go_ret
  exact ⟨by first | rfl | (simp; done) | (simp [*]; done), by repeat (first | exact Drawn0.refl _ | apply Drawn0.step)⟩

/-! ### laws_FnExactChecksumPatch: function 9 -/
def laws_FnExactChecksumPatch.f (k : Nat) (a0 : Int) (a1 : Int) (a2 : Int) : Option (Bool) := (spec_ChecksumPatch.f k a0 a1 a2).bind fun t102 => ((impl_ChecksumPatch.f k a0 a1 a2).bind fun t103 => (if t103 = t102 then (some true) else (some false)))
theorem laws_FnExactChecksumPatch.mono : ∀ a0 a1 a2 k, LeO (laws_FnExactChecksumPatch.f k a0 a1 a2) (laws_FnExactChecksumPatch.f (k + 1) a0 a1 a2) := by
  intro a0 a1 a2 k
  unfold laws_FnExactChecksumPatch.f
  repeat' first
      | (with_reducible exact impl_ChecksumPatch.mono _ _ _ _)
      | (with_reducible exact spec_ChecksumPatch.mono _ _ _ _)
      | (with_reducible exact LeO.refl _)
      | (with_reducible exact LeO.none _)
      | (with_reducible refine LeO.ite ?_ ?_)
      | (with_reducible refine LeO.bind ?_ (fun _ => ?_))
      | exact impl_ChecksumPatch.mono _ _ _ _
      | exact spec_ChecksumPatch.mono _ _ _ _
      | exact LeO.none _
      | refine LeO.ite ?_ ?_
      | refine LeO.bind ?_ (fun _ => ?_)
set_option maxHeartbeats 8000000 in
set_option maxRecDepth 100000 in
theorem laws_FnExactChecksumPatch.calls (k : Nat) (a0 : Int) (a1 : Int) (a2 : Int) (r : Bool) (w : World) (h : laws_FnExactChecksumPatch.f k a0 a1 a2 = some r) :
    Calls Try.prog 9 #[.int .i64 a0, .int .i64 a1, .int .i64 a2] w fun e w' => e = .returned (.bool r) ∧ Drawn0 w w' := by
  have H : ((spec_ChecksumPatch.f k a0 a1 a2).bind fun t102 => ((impl_ChecksumPatch.f k a0 a1 a2).bind fun t103 => (if t103 = t102 then (some true) else (some false)))) = some r := h
  clear h
  replace H := Option.bind_eq_some_iff.mp H
  obtain ⟨t102, A40, H⟩ := H
  replace H : ((impl_ChecksumPatch.f k a0 a1 a2).bind fun t103 => (if t103 = t102 then (some true) else (some false))) = some r := H
  have A4 := Aside0.mk A40
  clear A40
  replace H := Option.bind_eq_some_iff.mp H
  obtain ⟨t103, A50, H⟩ := H
  replace H : (if t103 = t102 then (some true) else (some false)) = some r := H
  have A5 := Aside0.mk A50
  clear A50
  by_cases c6 : t103 = t102
  · rw [if_pos c6] at H
    have c6b0 : (t103 == t102) = true := beq_iff_eq.mpr c6
    have c6b1 : (t103 != t102) = false := bne_eq_false_iff_eq.mpr c6
    clear c6
    obtain rfl := Option.some.inj H
    go_enter Try.func9, Try.ntmps9
    go_wp2_with (first | ((with_reducible refine gate_callee (f := 24) rfl ?_); refine goesL_ (some 12) rfl rfl Try.func24 (by kernel_rfl) rfl #[.int .i64 a0, .int .i64 a1, .int .i64 a2] rfl (by (try simp only [List.map_toArray, List.map_cons, List.map_nil]); first | done | rfl | (simp only [List.length_drop, List.length_take]; rfl)) ?_; (with_reducible refine (spec_ChecksumPatch.calls k a0 a1 a2 t102 _ A4.out).mono ?_); rintro e w' ⟨rfl, ⟨nd, rfl⟩⟩; refine ⟨_, rfl, ?_⟩) | ((with_reducible refine gate_callee (f := 25) rfl ?_); refine goesL_ (some 16) rfl rfl Try.func25 (by kernel_rfl) rfl #[.int .i64 a0, .int .i64 a1, .int .i64 a2] rfl (by (try simp only [List.map_toArray, List.map_cons, List.map_nil]); first | done | rfl | (simp only [List.length_drop, List.length_take]; rfl)) ?_; (with_reducible refine (impl_ChecksumPatch.calls k a0 a1 a2 t103 _ A5.out).mono ?_); rintro e w' ⟨rfl, ⟨nd, rfl⟩⟩; refine ⟨_, rfl, ?_⟩))
    go_ret
    exact ⟨by first | rfl | (simp; done) | (simp [*]; done), by repeat (first | exact Drawn0.refl _ | apply Drawn0.step)⟩
  · rw [if_neg c6] at H
    have c6b0 : (t103 == t102) = false := beq_eq_false_iff_ne.mpr c6
    have c6b1 : (t103 != t102) = true := bne_iff_ne.mpr c6
    obtain rfl := Option.some.inj H
    go_enter Try.func9, Try.ntmps9
    go_wp2_with (first | ((with_reducible refine gate_callee (f := 24) rfl ?_); refine goesL_ (some 12) rfl rfl Try.func24 (by kernel_rfl) rfl #[.int .i64 a0, .int .i64 a1, .int .i64 a2] rfl (by (try simp only [List.map_toArray, List.map_cons, List.map_nil]); first | done | rfl | (simp only [List.length_drop, List.length_take]; rfl)) ?_; (with_reducible refine (spec_ChecksumPatch.calls k a0 a1 a2 t102 _ A4.out).mono ?_); rintro e w' ⟨rfl, ⟨nd, rfl⟩⟩; refine ⟨_, rfl, ?_⟩) | ((with_reducible refine gate_callee (f := 25) rfl ?_); refine goesL_ (some 16) rfl rfl Try.func25 (by kernel_rfl) rfl #[.int .i64 a0, .int .i64 a1, .int .i64 a2] rfl (by (try simp only [List.map_toArray, List.map_cons, List.map_nil]); first | done | rfl | (simp only [List.length_drop, List.length_take]; rfl)) ?_; (with_reducible refine (impl_ChecksumPatch.calls k a0 a1 a2 t103 _ A5.out).mono ?_); rintro e w' ⟨rfl, ⟨nd, rfl⟩⟩; refine ⟨_, rfl, ?_⟩))
    go_ret
    exact ⟨by first | rfl | (simp; done) | (simp [*]; done), by repeat (first | exact Drawn0.refl _ | apply Drawn0.step)⟩

/-- THE ONE PURE STATEMENT of laws_FnExactChecksumPatch: yours. -/
def laws_FnExactChecksumPatch.Pure : Prop := ∀ (a0 : Int) (a1 : Int) (a2 : Int), (Lit.int .i64 a0).wf = true → (Lit.int .i64 a1).wf = true → (Lit.int .i64 a2).wf = true → ∃ k, laws_FnExactChecksumPatch.f k a0 a1 a2 = some true
theorem laws_FnExactChecksumPatch.walk (P : laws_FnExactChecksumPatch.Pure) (a0 : Int) (a1 : Int) (a2 : Int) (w : World) (w0 : (Lit.int .i64 a0).wf = true) (w1 : (Lit.int .i64 a1).wf = true) (w2 : (Lit.int .i64 a2).wf = true) :
    Calls Try.prog 9 #[.int .i64 a0, .int .i64 a1, .int .i64 a2] w fun e w' => e = .returned (.bool true) ∧ Below w.heap.size w w' := by
  obtain ⟨k, h⟩ := P a0 a1 a2 w0 w1 w2
  refine (laws_FnExactChecksumPatch.calls k a0 a1 a2 true w h).mono ?_
  rintro e w' ⟨rfl, hd⟩
  exact ⟨rfl, hd.below⟩

end Go.Proofs.Ytoelghcldfjdmaa.PFnExactChecksumPatch
