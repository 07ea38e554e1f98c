-- Written for this claim by a program of this session (wip/mkprint.py: the print, turned at a few places). Not trusted: Lean checks it.
import Derived.Test.YtkfbcmbemihbnaaPFnExactReadQuotex0
import Derived.Test.YtkfbcmbemihbnaaPFnExactReadQuotex2
namespace Go.Proofs.Ytkfbcmbemihbnaa.PFnExactReadQuote
open Go.RowKit Go.Proofs.YtkfbcmbemihbnaaW.PrintWords Go.Proofs.YtkfbcmbemihbnaaW.PrintLast Go.Proofs.YtkfbcmbemihbnaaW.PrintMore
attribute [local go_sem] max2_int min2_int max_two min_two max_three min_three max_four min_four   -- for this text's walks alone
set_option linter.unusedVariables false
set_option linter.unusedSimpArgs false

/-! ### impl_Checksum: function 71 -/
def impl_Checksum.l0 : Nat → Int → List Int → Int → Int → Option (Int)
  | 0, _, _, _, _ => none
  | k + 1, x3, x6, x7, x8 => if x8 < x7 then (if 0 ≤ x8 then (if x8 < (x6.length : Int) then (if (Int.tmod x8 2) = 0 then (impl_Checksum.l0 k (IntKind.u64.wrap (x3 + (IntKind.u64.wrap ((IntKind.u64.wrap (rd x6 x8)) * 256)))) x6 x7 (wrap64 (x8 + 1))) else (impl_Checksum.l0 k (IntKind.u64.wrap (x3 + (IntKind.u64.wrap (rd x6 x8)))) x6 x7 (wrap64 (x8 + 1)))) else (none)) else (none)) else ((impl_carried.f k x3).bind fun t132 => (some (wrap64 (Go.bits .and .u64 (Go.bits .xor .u64 18446744073709551615 t132) 65535))))
def impl_Checksum.f (k : Nat) (l0 : List Int) : Option (Int) := impl_Checksum.l0 k 0 l0 (l0.length : Int) 0
theorem impl_Checksum.mono_l : ∀ k, (∀ y0 y1 y2 y3, LeO (impl_Checksum.l0 k y0 y1 y2 y3) (impl_Checksum.l0 (k + 1) y0 y1 y2 y3))
  | 0 => fun _ _ _ _ r h => by simp [impl_Checksum.l0] at h
  | k + 1 => by
    have ih0 := impl_Checksum.mono_l k
    · intro y0 y1 y2 y3
      unfold impl_Checksum.l0
      repeat' first
      | (with_reducible exact ih0 _ _ _ _)
      | (with_reducible exact impl_carried.mono _ _)
      | (with_reducible exact LeO.refl _)
      | (with_reducible exact LeO.none _)
      | (with_reducible refine LeO.ite ?_ ?_)
      | (with_reducible refine LeO.bind ?_ (fun _ => ?_))
      | exact ih0 _ _ _ _
      | exact impl_carried.mono _ _
      | exact LeO.none _
      | refine LeO.ite ?_ ?_
      | refine LeO.bind ?_ (fun _ => ?_)
theorem impl_Checksum.mono : ∀ a0 k, LeO (impl_Checksum.f k a0) (impl_Checksum.f (k + 1) a0) := by
  intro a0 k
  have ih0 := impl_Checksum.mono_l k
  unfold impl_Checksum.f
  repeat' first
      | (with_reducible exact ih0 _ _ _ _)
      | (with_reducible exact impl_carried.mono _ _)
      | (with_reducible exact LeO.refl _)
      | (with_reducible exact LeO.none _)
      | (with_reducible refine LeO.ite ?_ ?_)
      | (with_reducible refine LeO.bind ?_ (fun _ => ?_))
      | exact ih0 _ _ _ _
      | exact impl_carried.mono _ _
      | exact LeO.none _
      | refine LeO.ite ?_ ?_
      | refine LeO.bind ?_ (fun _ => ?_)
set_option maxHeartbeats 60000000 in
set_option maxRecDepth 100000 in
theorem impl_Checksum.calls (k : Nat) (A0 : Option Addr) (c0 : Nat) (l0 : List Int) (r : Int) (w : World) (hr0 : Kd.C (Kd.int .u8) w A0 l0.length l0) (hc0 : l0.length ≤ c0) (h : impl_Checksum.f k l0 = some r) :
    Calls Try.prog 71 #[.slice A0 l0.length c0] w fun e w' => e = .returned (.int .i64 r) ∧ Drawn0 w w' := by
  have HR0 := Aside0.mk hr0
  have HC0 := Aside0.mk hc0
  clear hr0 hc0
  have H : (impl_Checksum.l0 k 0 l0 (l0.length : Int) 0) = some r := h
  clear h
  have H' := Aside0.mk H
  clear H
  go_enter Try.func71, Try.ntmps71
  go_wp2
  go_loopg [3, 8] k (fun kq v3 v8 w' => ∃ (x3_1 : Int) (x8_1 : Int), v3 = .int .u64 x3_1 ∧ v8 = .int .i64 x8_1 ∧ Aside0 (impl_Checksum.l0 kq x3_1 l0 (l0.length : Int) x8_1 = some r) ∧ Aside0 (kq ≤ k) ∧ Drawn0 w w')
  case atStart => exact ⟨(0), (0), (by first | rfl | (simp; done) | (simp [*]; done)), (by first | rfl | (simp; done) | (simp [*]; done)), H', ⟨Nat.le_refl _⟩, by repeat (first | exact Drawn0.refl _ | apply Drawn0.step)⟩
  case round =>
    clear H'
    obtain ⟨x3_1, x8_1, rfl, rfl, HA, HK1, ⟨m1, rfl⟩⟩ := hrel
    cases gk with
    | zero => exact absurd HA.out (by simp [impl_Checksum.l0])
    | succ k1 =>
      have H := HA.out
      clear HA
      simp only [impl_Checksum.l0] at H
      by_cases c1001 : x8_1 < (l0.length : Int)
      · rw [if_pos c1001] at H
        have c1001b0 : decide (x8_1 < (l0.length : Int)) = true := decide_eq_true c1001
        clear c1001
        by_cases c1002 : 0 ≤ x8_1
        · rw [if_pos c1002] at H
          have c1002b0 : decide (0 ≤ x8_1) = true := decide_eq_true c1002
          clear c1002
          by_cases c1003 : x8_1 < (l0.length : Int)
          · rw [if_pos c1003] at H
            have c1003b0 : decide (x8_1 < (l0.length : Int)) = true := decide_eq_true c1003
            clear c1003
            by_cases c1004 : (Int.tmod x8_1 2) = 0
            · rw [if_pos c1004] at H
              have c1004b0 : ((Int.tmod x8_1 2) == 0) = true := beq_iff_eq.mpr c1004
              have c1004b1 : ((Int.tmod x8_1 2) != 0) = false := bne_eq_false_iff_eq.mpr c1004
              clear c1004
              have H' := Aside0.mk H
              clear H
              have p131 : 0 ≤ (x8_1 : Int) := of_decide_eq_true (by first | (with_reducible assumption) | assumption)
              have q131 : x8_1 < (l0.length : Int) := of_decide_eq_true (by first | (with_reducible assumption) | assumption)
              obtain ⟨ad131, e131, hx131_0⟩ := Kd.at_int HR0.out x8_1 p131 q131
              cases e131
              replace p131 := eq_true p131
              replace q131 := eq_true q131
              go_wp2
              go_roundg k1
              case measure => have := HK1.out; omega
              case rel => exact ⟨(IntKind.u64.wrap (x3_1 + (IntKind.u64.wrap ((IntKind.u64.wrap (rd l0 x8_1)) * 256)))), (wrap64 (x8_1 + 1)), (by first | rfl | (simp; done) | (simp [*]; done)), (by first | rfl | (simp; done) | (simp [*]; done)), H', ⟨by have := HK1.out; omega⟩, by repeat (first | exact Drawn0.refl _ | apply Drawn0.step)⟩
            · rw [if_neg c1004] at H
              have c1004b0 : ((Int.tmod x8_1 2) == 0) = false := beq_eq_false_iff_ne.mpr c1004
              have c1004b1 : ((Int.tmod x8_1 2) != 0) = true := bne_iff_ne.mpr c1004
              have H' := Aside0.mk H
              clear H
              have p131 : 0 ≤ (x8_1 : Int) := of_decide_eq_true (by first | (with_reducible assumption) | assumption)
              have q131 : x8_1 < (l0.length : Int) := of_decide_eq_true (by first | (with_reducible assumption) | assumption)
              obtain ⟨ad131, e131, hx131_0⟩ := Kd.at_int HR0.out x8_1 p131 q131
              cases e131
              replace p131 := eq_true p131
              replace q131 := eq_true q131
              go_wp2
              go_roundg k1
              case measure => have := HK1.out; omega
              case rel => exact ⟨(IntKind.u64.wrap (x3_1 + (IntKind.u64.wrap (rd l0 x8_1)))), (wrap64 (x8_1 + 1)), (by first | rfl | (simp; done) | (simp [*]; done)), (by first | rfl | (simp; done) | (simp [*]; done)), H', ⟨by have := HK1.out; omega⟩, by repeat (first | exact Drawn0.refl _ | apply Drawn0.step)⟩
          · rw [if_neg c1003] at H
            exact absurd H (by simp)
        · rw [if_neg c1002] at H
          exact absurd H (by simp)
      · rw [if_neg c1001] at H
        have c1001b0 : decide (x8_1 < (l0.length : Int)) = false := decide_eq_false c1001
        clear c1001
        replace H := Option.bind_eq_some_iff.mp H
        obtain ⟨t132, A10050, H⟩ := H
        replace H : (some (wrap64 (Go.bits .and .u64 (Go.bits .xor .u64 18446744073709551615 t132) 65535))) = some r := H
        have A1005 := Aside0.mk A10050
        clear A10050
        obtain rfl := Option.some.inj H
        go_wp2_with (first | ((with_reducible refine gate_callee (f := 132) rfl ?_); refine goesL_ (some 27) rfl rfl Try.func132 (by kernel_rfl) rfl #[.int .u64 x3_1] rfl wT ?_; (with_reducible refine (impl_carried.calls k1 x3_1 t132 _ A1005.out).mono ?_); rintro e w' ⟨rfl, ⟨nd, rfl⟩⟩; refine ⟨_, rfl, ?_⟩))
        go_ret
        exact ⟨by first | rfl | (simp; done) | (simp [*]; done), by repeat (first | exact Drawn0.refl _ | apply Drawn0.step)⟩

/-! ### impl_get: function 72 -/
def impl_get.l0 : Nat → Int → List Int → Int → Int → Option (Int)
  | 0, _, _, _, _ => none
  | k + 1, x3, x6, x7, x8 => if x8 < x7 then (if 0 ≤ x8 then (if x8 < (x6.length : Int) then (impl_get.l0 k (Go.bits .or .i64 (wrap64 (x3 * 256)) (wrap64 (rd x6 x8))) x6 x7 (wrap64 (x8 + 1))) else (none)) else (none)) else (some x3)
def impl_get.f (k : Nat) (l0 : List Int) : Option (Int) := impl_get.l0 k 0 l0 (l0.length : Int) 0
theorem impl_get.mono_l : ∀ k, (∀ y0 y1 y2 y3, LeO (impl_get.l0 k y0 y1 y2 y3) (impl_get.l0 (k + 1) y0 y1 y2 y3))
  | 0 => fun _ _ _ _ r h => by simp [impl_get.l0] at h
  | k + 1 => by
    have ih0 := impl_get.mono_l k
    · intro y0 y1 y2 y3
      unfold impl_get.l0
      repeat' first
      | (with_reducible exact ih0 _ _ _ _)
      | (with_reducible exact LeO.refl _)
      | (with_reducible exact LeO.none _)
      | (with_reducible refine LeO.ite ?_ ?_)
      | (with_reducible refine LeO.bind ?_ (fun _ => ?_))
      | exact ih0 _ _ _ _
      | exact LeO.none _
      | refine LeO.ite ?_ ?_
      | refine LeO.bind ?_ (fun _ => ?_)
theorem impl_get.mono : ∀ a0 k, LeO (impl_get.f k a0) (impl_get.f (k + 1) a0) := by
  intro a0 k
  have ih0 := impl_get.mono_l k
  unfold impl_get.f
  repeat' first
      | (with_reducible exact ih0 _ _ _ _)
      | (with_reducible exact LeO.refl _)
      | (with_reducible exact LeO.none _)
      | (with_reducible refine LeO.ite ?_ ?_)
      | (with_reducible refine LeO.bind ?_ (fun _ => ?_))
      | exact ih0 _ _ _ _
      | exact LeO.none _
      | refine LeO.ite ?_ ?_
      | refine LeO.bind ?_ (fun _ => ?_)
set_option maxHeartbeats 60000000 in
set_option maxRecDepth 100000 in
theorem impl_get.calls (k : Nat) (A0 : Option Addr) (c0 : Nat) (l0 : List Int) (r : Int) (w : World) (hr0 : Kd.C (Kd.int .u8) w A0 l0.length l0) (hc0 : l0.length ≤ c0) (h : impl_get.f k l0 = some r) :
    Calls Try.prog 72 #[.slice A0 l0.length c0] w fun e w' => e = .returned (.int .i64 r) ∧ Drawn0 w w' := by
  have HR0 := Aside0.mk hr0
  have HC0 := Aside0.mk hc0
  clear hr0 hc0
  have H : (impl_get.l0 k 0 l0 (l0.length : Int) 0) = some r := h
  clear h
  have H' := Aside0.mk H
  clear H
  go_enter Try.func72, Try.ntmps72
  go_wp2
  go_loopg [3, 8] k (fun kq v3 v8 w' => ∃ (x3_1 : Int) (x8_1 : Int), v3 = .int .i64 x3_1 ∧ v8 = .int .i64 x8_1 ∧ Aside0 (impl_get.l0 kq x3_1 l0 (l0.length : Int) x8_1 = some r) ∧ Aside0 (kq ≤ k) ∧ Drawn0 w w')
  case atStart => exact ⟨(0), (0), (by first | rfl | (simp; done) | (simp [*]; done)), (by first | rfl | (simp; done) | (simp [*]; done)), H', ⟨Nat.le_refl _⟩, by repeat (first | exact Drawn0.refl _ | apply Drawn0.step)⟩
  case round =>
    clear H'
    obtain ⟨x3_1, x8_1, rfl, rfl, HA, HK1, ⟨m1, rfl⟩⟩ := hrel
    cases gk with
    | zero => exact absurd HA.out (by simp [impl_get.l0])
    | succ k1 =>
      have H := HA.out
      clear HA
      simp only [impl_get.l0] at H
      by_cases c1001 : x8_1 < (l0.length : Int)
      · rw [if_pos c1001] at H
        have c1001b0 : decide (x8_1 < (l0.length : Int)) = true := decide_eq_true c1001
        clear c1001
        by_cases c1002 : 0 ≤ x8_1
        · rw [if_pos c1002] at H
          have c1002b0 : decide (0 ≤ x8_1) = true := decide_eq_true c1002
          clear c1002
          by_cases c1003 : x8_1 < (l0.length : Int)
          · rw [if_pos c1003] at H
            have c1003b0 : decide (x8_1 < (l0.length : Int)) = true := decide_eq_true c1003
            clear c1003
            have H' := Aside0.mk H
            clear H
            have p133 : 0 ≤ (x8_1 : Int) := of_decide_eq_true (by first | (with_reducible assumption) | assumption)
            have q133 : x8_1 < (l0.length : Int) := of_decide_eq_true (by first | (with_reducible assumption) | assumption)
            obtain ⟨ad133, e133, hx133_0⟩ := Kd.at_int HR0.out x8_1 p133 q133
            cases e133
            replace p133 := eq_true p133
            replace q133 := eq_true q133
            go_wp2
            go_roundg k1
            case measure => have := HK1.out; omega
            case rel => exact ⟨(Go.bits .or .i64 (wrap64 (x3_1 * 256)) (wrap64 (rd l0 x8_1))), (wrap64 (x8_1 + 1)), (by first | rfl | (simp; done) | (simp [*]; done)), (by first | rfl | (simp; done) | (simp [*]; done)), H', ⟨by have := HK1.out; omega⟩, by repeat (first | exact Drawn0.refl _ | apply Drawn0.step)⟩
          · rw [if_neg c1003] at H
            exact absurd H (by simp)
        · rw [if_neg c1002] at H
          exact absurd H (by simp)
      · rw [if_neg c1001] at H
        have c1001b0 : decide (x8_1 < (l0.length : Int)) = false := decide_eq_false c1001
        clear c1001
        obtain rfl := Option.some.inj H
        go_wp2
        go_ret
        exact ⟨by first | rfl | (simp; done) | (simp [*]; done), by repeat (first | exact Drawn0.refl _ | apply Drawn0.step)⟩

end Go.Proofs.Ytkfbcmbemihbnaa.PFnExactReadQuote
