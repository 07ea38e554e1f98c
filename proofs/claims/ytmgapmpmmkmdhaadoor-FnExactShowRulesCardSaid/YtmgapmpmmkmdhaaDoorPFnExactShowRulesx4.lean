-- Written for this claim by a program of this session (wip/mkprint.py: the print, turned at a few places). Not trusted: Lean checks it.
import Derived.Test.YtmgapmpmmkmdhaaDoorPFnExactShowRulesx0
import Derived.Test.YtmgapmpmmkmdhaaDoorPFnExactShowRulesx1
import Derived.Test.YtmgapmpmmkmdhaaDoorPFnExactShowRulesx2
import Derived.Test.YtmgapmpmmkmdhaaDoorPFnExactShowRulesx3
namespace Go.Proofs.YtmgapmpmmkmdhaaDoor.PFnExactShowRules
open Go.RowKit Go.Proofs.YtmgapmpmmkmdhaaDoorW.PrintWords Go.Proofs.YtmgapmpmmkmdhaaDoorW.PrintLast Go.Proofs.YtmgapmpmmkmdhaaDoorW.PrintMore
attribute [local go_sem] max2_int min2_int max_two min_two max_three min_three max_four min_four   -- for this text's walks alone
set_option linter.unusedVariables false
set_option linter.unusedSimpArgs false

/-! ### spec_ShowRules: function 5 -/
def spec_ShowRules.l0 : Nat → List (S33) → ByteArray → Int → Option (ByteArray × Int)
  | 0, _, _, _ => none
  | k + 1, x0, x4, x5 => if x5 < (x0.length : Int) then (if 0 ≤ x5 then ((spec_l09OK.f k ((rd_T33 x0 x5).f0) ((rd_T33 x0 x5).f1) ((rd_T33 x0 x5).f2) ((rd_T33 x0 x5).f3.f0) ((rd_T33 x0 x5).f3.f1) ((rd_T33 x0 x5).f4) ((rd_T33 x0 x5).f5) ((rd_T33 x0 x5).f6.f0) ((rd_T33 x0 x5).f6.f1) ((rd_T33 x0 x5).f7) ((rd_T33 x0 x5).f8) ((rd_T33 x0 x5).f9)).bind fun t162 => (if t162 = true then ((spec_l09Word.f k (⟨#[45, 32, 112, 97, 115, 115, 32, 100, 114, 111, 112, 32, 114, 101, 106, 101, 99, 116]⟩ : ByteArray) ((rd_T33 x0 x5).f0)).bind fun t163 => (if x4.size + t163.size ≤ 9223372036854775807 then (if (x4 ++ t163).size + 1 ≤ 9223372036854775807 then ((spec_l09Word.f k (⟨#[45, 32, 105, 110, 32, 111, 117, 116, 32, 98, 111, 116, 104]⟩ : ByteArray) ((rd_T33 x0 x5).f1)).bind fun t164 => (if ((x4 ++ t163) ++ (⟨#[32]⟩ : ByteArray)).size + t164.size ≤ 9223372036854775807 then (if (((x4 ++ t163) ++ (⟨#[32]⟩ : ByteArray)) ++ t164).size + 1 ≤ 9223372036854775807 then ((spec_l09ProtoName.f ((rd_T33 x0 x5).f2)).bind fun t165 => (if ((((x4 ++ t163) ++ (⟨#[32]⟩ : ByteArray)) ++ t164) ++ (⟨#[32]⟩ : ByteArray)).size + t165.size ≤ 9223372036854775807 then (if (((((x4 ++ t163) ++ (⟨#[32]⟩ : ByteArray)) ++ t164) ++ (⟨#[32]⟩ : ByteArray)) ++ t165).size + 6 ≤ 9223372036854775807 then ((spec_l09ShowSide.f k ((rd_T33 x0 x5).f3.f0) ((rd_T33 x0 x5).f3.f1) ((rd_T33 x0 x5).f4) ((rd_T33 x0 x5).f5)).bind fun t166 => (if ((((((x4 ++ t163) ++ (⟨#[32]⟩ : ByteArray)) ++ t164) ++ (⟨#[32]⟩ : ByteArray)) ++ t165) ++ (⟨#[32, 102, 114, 111, 109, 32]⟩ : ByteArray)).size + t166.size ≤ 9223372036854775807 then (if (((((((x4 ++ t163) ++ (⟨#[32]⟩ : ByteArray)) ++ t164) ++ (⟨#[32]⟩ : ByteArray)) ++ t165) ++ (⟨#[32, 102, 114, 111, 109, 32]⟩ : ByteArray)) ++ t166).size + 4 ≤ 9223372036854775807 then ((spec_l09ShowSide.f k ((rd_T33 x0 x5).f6.f0) ((rd_T33 x0 x5).f6.f1) ((rd_T33 x0 x5).f7) ((rd_T33 x0 x5).f8)).bind fun t167 => (if ((((((((x4 ++ t163) ++ (⟨#[32]⟩ : ByteArray)) ++ t164) ++ (⟨#[32]⟩ : ByteArray)) ++ t165) ++ (⟨#[32, 102, 114, 111, 109, 32]⟩ : ByteArray)) ++ t166) ++ (⟨#[32, 116, 111, 32]⟩ : ByteArray)).size + t167.size ≤ 9223372036854775807 then (if ((rd_T33 x0 x5).f9) = 0 then (if (((((((((x4 ++ t163) ++ (⟨#[32]⟩ : ByteArray)) ++ t164) ++ (⟨#[32]⟩ : ByteArray)) ++ t165) ++ (⟨#[32, 102, 114, 111, 109, 32]⟩ : ByteArray)) ++ t166) ++ (⟨#[32, 116, 111, 32]⟩ : ByteArray)) ++ t167).size + 1 ≤ 9223372036854775807 then (spec_ShowRules.l0 k x0 ((((((((((x4 ++ t163) ++ (⟨#[32]⟩ : ByteArray)) ++ t164) ++ (⟨#[32]⟩ : ByteArray)) ++ t165) ++ (⟨#[32, 102, 114, 111, 109, 32]⟩ : ByteArray)) ++ t166) ++ (⟨#[32, 116, 111, 32]⟩ : ByteArray)) ++ t167) ++ (⟨#[10]⟩ : ByteArray)) (wrap64 (x5 + 1))) else (none)) else (if (((((((((x4 ++ t163) ++ (⟨#[32]⟩ : ByteArray)) ++ t164) ++ (⟨#[32]⟩ : ByteArray)) ++ t165) ++ (⟨#[32, 102, 114, 111, 109, 32]⟩ : ByteArray)) ++ t166) ++ (⟨#[32, 116, 111, 32]⟩ : ByteArray)) ++ t167).size + 1 ≤ 9223372036854775807 then ((spec_l09Word.f k (⟨#[97, 110, 121, 32, 110, 101, 119, 32, 107, 110, 111, 119, 110, 32, 114, 101, 108, 97, 116, 101, 100, 32, 115, 116, 114, 97, 121]⟩ : ByteArray) ((rd_T33 x0 x5).f9)).bind fun t168 => (if ((((((((((x4 ++ t163) ++ (⟨#[32]⟩ : ByteArray)) ++ t164) ++ (⟨#[32]⟩ : ByteArray)) ++ t165) ++ (⟨#[32, 102, 114, 111, 109, 32]⟩ : ByteArray)) ++ t166) ++ (⟨#[32, 116, 111, 32]⟩ : ByteArray)) ++ t167) ++ (⟨#[32]⟩ : ByteArray)).size + t168.size ≤ 9223372036854775807 then (if (((((((((((x4 ++ t163) ++ (⟨#[32]⟩ : ByteArray)) ++ t164) ++ (⟨#[32]⟩ : ByteArray)) ++ t165) ++ (⟨#[32, 102, 114, 111, 109, 32]⟩ : ByteArray)) ++ t166) ++ (⟨#[32, 116, 111, 32]⟩ : ByteArray)) ++ t167) ++ (⟨#[32]⟩ : ByteArray)) ++ t168).size + 1 ≤ 9223372036854775807 then (spec_ShowRules.l0 k x0 ((((((((((((x4 ++ t163) ++ (⟨#[32]⟩ : ByteArray)) ++ t164) ++ (⟨#[32]⟩ : ByteArray)) ++ t165) ++ (⟨#[32, 102, 114, 111, 109, 32]⟩ : ByteArray)) ++ t166) ++ (⟨#[32, 116, 111, 32]⟩ : ByteArray)) ++ t167) ++ (⟨#[32]⟩ : ByteArray)) ++ t168) ++ (⟨#[10]⟩ : ByteArray)) (wrap64 (x5 + 1))) else (none)) else (none))) else (none))) else (none))) else (none)) else (none))) else (none)) else (none))) else (none)) else (none))) else (none)) else (none))) else (some ((⟨#[]⟩ : ByteArray), 1)))) else (none)) else (some (x4, 0))
def spec_ShowRules.f (k : Nat) (l0 : List (S33)) : Option (ByteArray × Int) := if (l0.length : Int) > 64 then (some ((⟨#[]⟩ : ByteArray), 8)) else (spec_ShowRules.l0 k l0 (⟨#[]⟩ : ByteArray) 0)
theorem spec_ShowRules.mono_l : ∀ k, (∀ y0 y1 y2, LeO (spec_ShowRules.l0 k y0 y1 y2) (spec_ShowRules.l0 (k + 1) y0 y1 y2))
  | 0 => fun _ _ _ r h => by simp [spec_ShowRules.l0] at h
  | k + 1 => by
    have ih0 := spec_ShowRules.mono_l k
    · intro y0 y1 y2
      unfold spec_ShowRules.l0
      repeat' first
      | (with_reducible exact ih0 _ _ _)
      | (with_reducible exact spec_l09OK.mono _ _ _ _ _ _ _ _ _ _ _ _ _)
      | (with_reducible exact spec_l09ShowSide.mono _ _ _ _ _)
      | (with_reducible exact spec_l09Word.mono _ _ _)
      | (with_reducible exact LeO.refl _)
      | (with_reducible exact LeO.none _)
      | (with_reducible refine LeO.ite ?_ ?_)
      | (with_reducible refine LeO.bind ?_ (fun _ => ?_))
      | exact ih0 _ _ _
      | exact spec_l09OK.mono _ _ _ _ _ _ _ _ _ _ _ _ _
      | exact spec_l09ShowSide.mono _ _ _ _ _
      | exact spec_l09Word.mono _ _ _
      | exact LeO.none _
      | refine LeO.ite ?_ ?_
      | refine LeO.bind ?_ (fun _ => ?_)
theorem spec_ShowRules.mono : ∀ a0 k, LeO (spec_ShowRules.f k a0) (spec_ShowRules.f (k + 1) a0) := by
 intro a0 k
 have ih0 := spec_ShowRules.mono_l k
 unfold spec_ShowRules.f
 repeat' first
     | (with_reducible exact ih0 _ _ _)
     | (with_reducible exact spec_l09OK.mono _ _ _ _ _ _ _ _ _ _ _ _ _)
     | (with_reducible exact spec_l09ShowSide.mono _ _ _ _ _)
     | (with_reducible exact spec_l09Word.mono _ _ _)
     | (with_reducible exact LeO.refl _)
     | (with_reducible exact LeO.none _)
     | (with_reducible refine LeO.ite ?_ ?_)
     | (with_reducible refine LeO.bind ?_ (fun _ => ?_))
     | exact ih0 _ _ _
     | exact spec_l09OK.mono _ _ _ _ _ _ _ _ _ _ _ _ _
     | exact spec_l09ShowSide.mono _ _ _ _ _
     | exact spec_l09Word.mono _ _ _
     | exact LeO.none _
     | refine LeO.ite ?_ ?_
     | refine LeO.bind ?_ (fun _ => ?_)
def spec_ShowRules.T10 : Bool × List (List Nat × List Nat) := (true, [([], []), ([], []), ([1], [1]), ([2], [2]), ([0, 3], [0, 3]), ([4], [4]), ([], []), ([6], [6]), ([7, 3], [7]), ([5, 8], [5, 8]), ([9], [9]), ([], []), ([11], [11]), ([12, 8], [12]), ([10, 13], [10, 13]), ([14], [14]), ([], []), ([16], [16]), ([], []), ([18], [18]), ([], []), ([20], [20]), ([17, 19, 21, 13], [17, 19, 21]), ([15, 22], [15, 22]), ([23], [23]), ([], []), ([25], [25]), ([], []), ([27], [27]), ([], []), ([29], [29]), ([26, 28, 30, 22], [26, 28, 30]), ([24, 31], [24, 31]), ([32, 31, 0, 1, 2, 3, 4, 5, 6, 7, 8, 9, 10, 11, 12, 13, 14, 15, 16, 17, 18, 19, 20, 21, 22, 23, 24, 25, 26, 27, 28, 29, 30, 31, 32], [0, 32])])
def spec_ShowRules.B10 : List Nat := [0, 0, 2, 6, 15, 31, 0, 64, 206, 511, 1023, 0, 2048, 6606, 16383, 32767, 0, 65536, 0, 262144, 0, 1048576, 4143566, 8388607, 16777215, 0, 33554432, 0, 134217728, 0, 536870912, 2122267086, 4294967295, 8589934591]
theorem spec_ShowRules.tab10 : rtab .any (opsOf Tryd.f5 10) = spec_ShowRules.T10 := by kernel_rfl
theorem spec_ShowRules.bits10 : waitsOk spec_ShowRules.T10.2 spec_ShowRules.B10 = true := by kernel_rfl
set_option maxHeartbeats 60000000 in
set_option maxRecDepth 100000 in
theorem spec_ShowRules.calls (k : Nat) (A0 : Option Addr) (c0 : Nat) (l0 : List (S33)) (r1 : ByteArray) (r2 : Int) (w : World) (hr0 : Kd.C k33 w A0 l0.length l0) (hc0 : l0.length ≤ c0) (h : spec_ShowRules.f k l0 = some (r1, r2)) :
 Calls Tryd.prog 5 #[.slice A0 l0.length c0] w fun e w' => e = .returned (.tuple #[.string r1, .int .i64 r2]) ∧ Below w.heap.size w w' := by
 have hu33 := Tryd.underlying33
 have hu31 := Tryd.underlying31
 have HR0 := Aside0.mk hr0
 have HC0 := Aside0.mk hc0
 clear hr0 hc0
 have HB := Aside0.mk (Below.refl w.heap.size w)
 have H : (if (l0.length : Int) > 64 then (some ((⟨#[]⟩ : ByteArray), 8)) else (spec_ShowRules.l0 k l0 (⟨#[]⟩ : ByteArray) 0)) = some (r1, r2) := h
 clear h
 by_cases c2 : (l0.length : Int) > 64
 {
 rw [if_pos c2] at H
 have c2b0 : decide (64 < (l0.length : Int)) = true := decide_eq_true c2
 have c2b1 : decide (64 < l0.length) = true := decide_eq_true (by omega)
 clear c2
 simp only [Option.some.injEq, Prod.mk.injEq] at H
 obtain ⟨rfl, rfl⟩ := H
 go_enter Tryd.func5, Tryd.ntmps5
 go_wp2
 go_ret2
 exact ⟨by first | rfl | (simp [errW_none, errW_some] <;> rfl) | (simp [*, errW_none, errW_some] <;> rfl), wB⟩
 }
 {
 rw [if_neg c2] at H
 have c2b0 : decide (64 < (l0.length : Int)) = false := decide_eq_false c2
 have c2b1 : decide (64 < l0.length) = false := decide_eq_false (by omega)
 clear c2
 have H' := Aside0.mk H
 clear H
 go_enter Tryd.func5, Tryd.ntmps5
 go_wp2
 go_loopg [4, 5] k (fun kq v4 v5 w' => ∃ (x4_1 : ByteArray) (x5_1 : Int), v4 = .string x4_1 ∧ v5 = .int .i64 x5_1 ∧ Aside0 (spec_ShowRules.l0 kq l0 x4_1 x5_1 = some (r1, r2)) ∧ Aside0 (kq ≤ k) ∧ Aside0 (Below w.heap.size w w'))
 case atStart => exact ⟨((⟨#[]⟩ : ByteArray)), (0), (by first | rfl | (simp; done) | (simp [*]; done)), (by first | rfl | (simp; done) | (simp [*]; done)), H', ⟨Nat.le_refl _⟩, ⟨wB⟩⟩
 case round => (
 clear H'
 try clear c2
 try clear c2b0
 try clear c2b1
 try clear p2
 obtain ⟨x4_1, x5_1, rfl, rfl, HA, HK1, HB⟩ := hrel
 cases gk with
 | zero => exact absurd HA.out (by simp [spec_ShowRules.l0])
 | succ k1 => {
 have H := HA.out
 clear HA
 simp only [spec_ShowRules.l0] at H
 by_cases c1001 : x5_1 < (l0.length : Int)
 rw [if_pos c1001] at H
 have c1001b0 : decide (x5_1 < (l0.length : Int)) = true := decide_eq_true c1001
 clear c1001
 by_cases c1002 : 0 ≤ x5_1
 rw [if_pos c1002] at H
 have c1002b0 : decide (0 ≤ x5_1) = true := decide_eq_true c1002
 clear c1002
 replace H := Option.bind_eq_some_iff.mp H
 obtain ⟨t162, A10030, H⟩ := H
 replace H : (if t162 = true then ((spec_l09Word.f k1 (⟨#[45, 32, 112, 97, 115, 115, 32, 100, 114, 111, 112, 32, 114, 101, 106, 101, 99, 116]⟩ : ByteArray) ((rd_T33 l0 x5_1).f0)).bind fun t163 => (if x4_1.size + t163.size ≤ 9223372036854775807 then (if (x4_1 ++ t163).size + 1 ≤ 9223372036854775807 then ((spec_l09Word.f k1 (⟨#[45, 32, 105, 110, 32, 111, 117, 116, 32, 98, 111, 116, 104]⟩ : ByteArray) ((rd_T33 l0 x5_1).f1)).bind fun t164 => (if ((x4_1 ++ t163) ++ (⟨#[32]⟩ : ByteArray)).size + t164.size ≤ 9223372036854775807 then (if (((x4_1 ++ t163) ++ (⟨#[32]⟩ : ByteArray)) ++ t164).size + 1 ≤ 9223372036854775807 then ((spec_l09ProtoName.f ((rd_T33 l0 x5_1).f2)).bind fun t165 => (if ((((x4_1 ++ t163) ++ (⟨#[32]⟩ : ByteArray)) ++ t164) ++ (⟨#[32]⟩ : ByteArray)).size + t165.size ≤ 9223372036854775807 then (if (((((x4_1 ++ t163) ++ (⟨#[32]⟩ : ByteArray)) ++ t164) ++ (⟨#[32]⟩ : ByteArray)) ++ t165).size + 6 ≤ 9223372036854775807 then ((spec_l09ShowSide.f k1 ((rd_T33 l0 x5_1).f3.f0) ((rd_T33 l0 x5_1).f3.f1) ((rd_T33 l0 x5_1).f4) ((rd_T33 l0 x5_1).f5)).bind fun t166 => (if ((((((x4_1 ++ t163) ++ (⟨#[32]⟩ : ByteArray)) ++ t164) ++ (⟨#[32]⟩ : ByteArray)) ++ t165) ++ (⟨#[32, 102, 114, 111, 109, 32]⟩ : ByteArray)).size + t166.size ≤ 9223372036854775807 then (if (((((((x4_1 ++ t163) ++ (⟨#[32]⟩ : ByteArray)) ++ t164) ++ (⟨#[32]⟩ : ByteArray)) ++ t165) ++ (⟨#[32, 102, 114, 111, 109, 32]⟩ : ByteArray)) ++ t166).size + 4 ≤ 9223372036854775807 then ((spec_l09ShowSide.f k1 ((rd_T33 l0 x5_1).f6.f0) ((rd_T33 l0 x5_1).f6.f1) ((rd_T33 l0 x5_1).f7) ((rd_T33 l0 x5_1).f8)).bind fun t167 => (if ((((((((x4_1 ++ t163) ++ (⟨#[32]⟩ : ByteArray)) ++ t164) ++ (⟨#[32]⟩ : ByteArray)) ++ t165) ++ (⟨#[32, 102, 114, 111, 109, 32]⟩ : ByteArray)) ++ t166) ++ (⟨#[32, 116, 111, 32]⟩ : ByteArray)).size + t167.size ≤ 9223372036854775807 then (if ((rd_T33 l0 x5_1).f9) = 0 then (if (((((((((x4_1 ++ t163) ++ (⟨#[32]⟩ : ByteArray)) ++ t164) ++ (⟨#[32]⟩ : ByteArray)) ++ t165) ++ (⟨#[32, 102, 114, 111, 109, 32]⟩ : ByteArray)) ++ t166) ++ (⟨#[32, 116, 111, 32]⟩ : ByteArray)) ++ t167).size + 1 ≤ 9223372036854775807 then (spec_ShowRules.l0 k1 l0 ((((((((((x4_1 ++ t163) ++ (⟨#[32]⟩ : ByteArray)) ++ t164) ++ (⟨#[32]⟩ : ByteArray)) ++ t165) ++ (⟨#[32, 102, 114, 111, 109, 32]⟩ : ByteArray)) ++ t166) ++ (⟨#[32, 116, 111, 32]⟩ : ByteArray)) ++ t167) ++ (⟨#[10]⟩ : ByteArray)) (wrap64 (x5_1 + 1))) else (none)) else (if (((((((((x4_1 ++ t163) ++ (⟨#[32]⟩ : ByteArray)) ++ t164) ++ (⟨#[32]⟩ : ByteArray)) ++ t165) ++ (⟨#[32, 102, 114, 111, 109, 32]⟩ : ByteArray)) ++ t166) ++ (⟨#[32, 116, 111, 32]⟩ : ByteArray)) ++ t167).size + 1 ≤ 9223372036854775807 then ((spec_l09Word.f k1 (⟨#[97, 110, 121, 32, 110, 101, 119, 32, 107, 110, 111, 119, 110, 32, 114, 101, 108, 97, 116, 101, 100, 32, 115, 116, 114, 97, 121]⟩ : ByteArray) ((rd_T33 l0 x5_1).f9)).bind fun t168 => (if ((((((((((x4_1 ++ t163) ++ (⟨#[32]⟩ : ByteArray)) ++ t164) ++ (⟨#[32]⟩ : ByteArray)) ++ t165) ++ (⟨#[32, 102, 114, 111, 109, 32]⟩ : ByteArray)) ++ t166) ++ (⟨#[32, 116, 111, 32]⟩ : ByteArray)) ++ t167) ++ (⟨#[32]⟩ : ByteArray)).size + t168.size ≤ 9223372036854775807 then (if (((((((((((x4_1 ++ t163) ++ (⟨#[32]⟩ : ByteArray)) ++ t164) ++ (⟨#[32]⟩ : ByteArray)) ++ t165) ++ (⟨#[32, 102, 114, 111, 109, 32]⟩ : ByteArray)) ++ t166) ++ (⟨#[32, 116, 111, 32]⟩ : ByteArray)) ++ t167) ++ (⟨#[32]⟩ : ByteArray)) ++ t168).size + 1 ≤ 9223372036854775807 then (spec_ShowRules.l0 k1 l0 ((((((((((((x4_1 ++ t163) ++ (⟨#[32]⟩ : ByteArray)) ++ t164) ++ (⟨#[32]⟩ : ByteArray)) ++ t165) ++ (⟨#[32, 102, 114, 111, 109, 32]⟩ : ByteArray)) ++ t166) ++ (⟨#[32, 116, 111, 32]⟩ : ByteArray)) ++ t167) ++ (⟨#[32]⟩ : ByteArray)) ++ t168) ++ (⟨#[10]⟩ : ByteArray)) (wrap64 (x5_1 + 1))) else (none)) else (none))) else (none))) else (none))) else (none)) else (none))) else (none)) else (none))) else (none)) else (none))) else (none)) else (none))) else (some ((⟨#[]⟩ : ByteArray), 1))) = some (r1, r2) := H
 have A1003 := Aside0.mk A10030
 clear A10030
 by_cases c1004 : t162 = true
 subst c1004
 have H1 : ((spec_l09Word.f k1 (⟨#[45, 32, 112, 97, 115, 115, 32, 100, 114, 111, 112, 32, 114, 101, 106, 101, 99, 116]⟩ : ByteArray) ((rd_T33 l0 x5_1).f0)).bind fun t163 => (if x4_1.size + t163.size ≤ 9223372036854775807 then (if (x4_1 ++ t163).size + 1 ≤ 9223372036854775807 then ((spec_l09Word.f k1 (⟨#[45, 32, 105, 110, 32, 111, 117, 116, 32, 98, 111, 116, 104]⟩ : ByteArray) ((rd_T33 l0 x5_1).f1)).bind fun t164 => (if ((x4_1 ++ t163) ++ (⟨#[32]⟩ : ByteArray)).size + t164.size ≤ 9223372036854775807 then (if (((x4_1 ++ t163) ++ (⟨#[32]⟩ : ByteArray)) ++ t164).size + 1 ≤ 9223372036854775807 then ((spec_l09ProtoName.f ((rd_T33 l0 x5_1).f2)).bind fun t165 => (if ((((x4_1 ++ t163) ++ (⟨#[32]⟩ : ByteArray)) ++ t164) ++ (⟨#[32]⟩ : ByteArray)).size + t165.size ≤ 9223372036854775807 then (if (((((x4_1 ++ t163) ++ (⟨#[32]⟩ : ByteArray)) ++ t164) ++ (⟨#[32]⟩ : ByteArray)) ++ t165).size + 6 ≤ 9223372036854775807 then ((spec_l09ShowSide.f k1 ((rd_T33 l0 x5_1).f3.f0) ((rd_T33 l0 x5_1).f3.f1) ((rd_T33 l0 x5_1).f4) ((rd_T33 l0 x5_1).f5)).bind fun t166 => (if ((((((x4_1 ++ t163) ++ (⟨#[32]⟩ : ByteArray)) ++ t164) ++ (⟨#[32]⟩ : ByteArray)) ++ t165) ++ (⟨#[32, 102, 114, 111, 109, 32]⟩ : ByteArray)).size + t166.size ≤ 9223372036854775807 then (if (((((((x4_1 ++ t163) ++ (⟨#[32]⟩ : ByteArray)) ++ t164) ++ (⟨#[32]⟩ : ByteArray)) ++ t165) ++ (⟨#[32, 102, 114, 111, 109, 32]⟩ : ByteArray)) ++ t166).size + 4 ≤ 9223372036854775807 then ((spec_l09ShowSide.f k1 ((rd_T33 l0 x5_1).f6.f0) ((rd_T33 l0 x5_1).f6.f1) ((rd_T33 l0 x5_1).f7) ((rd_T33 l0 x5_1).f8)).bind fun t167 => (if ((((((((x4_1 ++ t163) ++ (⟨#[32]⟩ : ByteArray)) ++ t164) ++ (⟨#[32]⟩ : ByteArray)) ++ t165) ++ (⟨#[32, 102, 114, 111, 109, 32]⟩ : ByteArray)) ++ t166) ++ (⟨#[32, 116, 111, 32]⟩ : ByteArray)).size + t167.size ≤ 9223372036854775807 then (if ((rd_T33 l0 x5_1).f9) = 0 then (if (((((((((x4_1 ++ t163) ++ (⟨#[32]⟩ : ByteArray)) ++ t164) ++ (⟨#[32]⟩ : ByteArray)) ++ t165) ++ (⟨#[32, 102, 114, 111, 109, 32]⟩ : ByteArray)) ++ t166) ++ (⟨#[32, 116, 111, 32]⟩ : ByteArray)) ++ t167).size + 1 ≤ 9223372036854775807 then (spec_ShowRules.l0 k1 l0 ((((((((((x4_1 ++ t163) ++ (⟨#[32]⟩ : ByteArray)) ++ t164) ++ (⟨#[32]⟩ : ByteArray)) ++ t165) ++ (⟨#[32, 102, 114, 111, 109, 32]⟩ : ByteArray)) ++ t166) ++ (⟨#[32, 116, 111, 32]⟩ : ByteArray)) ++ t167) ++ (⟨#[10]⟩ : ByteArray)) (wrap64 (x5_1 + 1))) else (none)) else (if (((((((((x4_1 ++ t163) ++ (⟨#[32]⟩ : ByteArray)) ++ t164) ++ (⟨#[32]⟩ : ByteArray)) ++ t165) ++ (⟨#[32, 102, 114, 111, 109, 32]⟩ : ByteArray)) ++ t166) ++ (⟨#[32, 116, 111, 32]⟩ : ByteArray)) ++ t167).size + 1 ≤ 9223372036854775807 then ((spec_l09Word.f k1 (⟨#[97, 110, 121, 32, 110, 101, 119, 32, 107, 110, 111, 119, 110, 32, 114, 101, 108, 97, 116, 101, 100, 32, 115, 116, 114, 97, 121]⟩ : ByteArray) ((rd_T33 l0 x5_1).f9)).bind fun t168 => (if ((((((((((x4_1 ++ t163) ++ (⟨#[32]⟩ : ByteArray)) ++ t164) ++ (⟨#[32]⟩ : ByteArray)) ++ t165) ++ (⟨#[32, 102, 114, 111, 109, 32]⟩ : ByteArray)) ++ t166) ++ (⟨#[32, 116, 111, 32]⟩ : ByteArray)) ++ t167) ++ (⟨#[32]⟩ : ByteArray)).size + t168.size ≤ 9223372036854775807 then (if (((((((((((x4_1 ++ t163) ++ (⟨#[32]⟩ : ByteArray)) ++ t164) ++ (⟨#[32]⟩ : ByteArray)) ++ t165) ++ (⟨#[32, 102, 114, 111, 109, 32]⟩ : ByteArray)) ++ t166) ++ (⟨#[32, 116, 111, 32]⟩ : ByteArray)) ++ t167) ++ (⟨#[32]⟩ : ByteArray)) ++ t168).size + 1 ≤ 9223372036854775807 then (spec_ShowRules.l0 k1 l0 ((((((((((((x4_1 ++ t163) ++ (⟨#[32]⟩ : ByteArray)) ++ t164) ++ (⟨#[32]⟩ : ByteArray)) ++ t165) ++ (⟨#[32, 102, 114, 111, 109, 32]⟩ : ByteArray)) ++ t166) ++ (⟨#[32, 116, 111, 32]⟩ : ByteArray)) ++ t167) ++ (⟨#[32]⟩ : ByteArray)) ++ t168) ++ (⟨#[10]⟩ : ByteArray)) (wrap64 (x5_1 + 1))) else (none)) else (none))) else (none))) else (none))) else (none)) else (none))) else (none)) else (none))) else (none)) else (none))) else (none)) else (none))) = some (r1, r2) := by rw [if_pos rfl] at H; exact H
 clear H
 have H := H1
 clear H1
 replace H := Option.bind_eq_some_iff.mp H
 obtain ⟨t163, A10050, H⟩ := H
 replace H : (if x4_1.size + t163.size ≤ 9223372036854775807 then (if (x4_1 ++ t163).size + 1 ≤ 9223372036854775807 then ((spec_l09Word.f k1 (⟨#[45, 32, 105, 110, 32, 111, 117, 116, 32, 98, 111, 116, 104]⟩ : ByteArray) ((rd_T33 l0 x5_1).f1)).bind fun t164 => (if ((x4_1 ++ t163) ++ (⟨#[32]⟩ : ByteArray)).size + t164.size ≤ 9223372036854775807 then (if (((x4_1 ++ t163) ++ (⟨#[32]⟩ : ByteArray)) ++ t164).size + 1 ≤ 9223372036854775807 then ((spec_l09ProtoName.f ((rd_T33 l0 x5_1).f2)).bind fun t165 => (if ((((x4_1 ++ t163) ++ (⟨#[32]⟩ : ByteArray)) ++ t164) ++ (⟨#[32]⟩ : ByteArray)).size + t165.size ≤ 9223372036854775807 then (if (((((x4_1 ++ t163) ++ (⟨#[32]⟩ : ByteArray)) ++ t164) ++ (⟨#[32]⟩ : ByteArray)) ++ t165).size + 6 ≤ 9223372036854775807 then ((spec_l09ShowSide.f k1 ((rd_T33 l0 x5_1).f3.f0) ((rd_T33 l0 x5_1).f3.f1) ((rd_T33 l0 x5_1).f4) ((rd_T33 l0 x5_1).f5)).bind fun t166 => (if ((((((x4_1 ++ t163) ++ (⟨#[32]⟩ : ByteArray)) ++ t164) ++ (⟨#[32]⟩ : ByteArray)) ++ t165) ++ (⟨#[32, 102, 114, 111, 109, 32]⟩ : ByteArray)).size + t166.size ≤ 9223372036854775807 then (if (((((((x4_1 ++ t163) ++ (⟨#[32]⟩ : ByteArray)) ++ t164) ++ (⟨#[32]⟩ : ByteArray)) ++ t165) ++ (⟨#[32, 102, 114, 111, 109, 32]⟩ : ByteArray)) ++ t166).size + 4 ≤ 9223372036854775807 then ((spec_l09ShowSide.f k1 ((rd_T33 l0 x5_1).f6.f0) ((rd_T33 l0 x5_1).f6.f1) ((rd_T33 l0 x5_1).f7) ((rd_T33 l0 x5_1).f8)).bind fun t167 => (if ((((((((x4_1 ++ t163) ++ (⟨#[32]⟩ : ByteArray)) ++ t164) ++ (⟨#[32]⟩ : ByteArray)) ++ t165) ++ (⟨#[32, 102, 114, 111, 109, 32]⟩ : ByteArray)) ++ t166) ++ (⟨#[32, 116, 111, 32]⟩ : ByteArray)).size + t167.size ≤ 9223372036854775807 then (if ((rd_T33 l0 x5_1).f9) = 0 then (if (((((((((x4_1 ++ t163) ++ (⟨#[32]⟩ : ByteArray)) ++ t164) ++ (⟨#[32]⟩ : ByteArray)) ++ t165) ++ (⟨#[32, 102, 114, 111, 109, 32]⟩ : ByteArray)) ++ t166) ++ (⟨#[32, 116, 111, 32]⟩ : ByteArray)) ++ t167).size + 1 ≤ 9223372036854775807 then (spec_ShowRules.l0 k1 l0 ((((((((((x4_1 ++ t163) ++ (⟨#[32]⟩ : ByteArray)) ++ t164) ++ (⟨#[32]⟩ : ByteArray)) ++ t165) ++ (⟨#[32, 102, 114, 111, 109, 32]⟩ : ByteArray)) ++ t166) ++ (⟨#[32, 116, 111, 32]⟩ : ByteArray)) ++ t167) ++ (⟨#[10]⟩ : ByteArray)) (wrap64 (x5_1 + 1))) else (none)) else (if (((((((((x4_1 ++ t163) ++ (⟨#[32]⟩ : ByteArray)) ++ t164) ++ (⟨#[32]⟩ : ByteArray)) ++ t165) ++ (⟨#[32, 102, 114, 111, 109, 32]⟩ : ByteArray)) ++ t166) ++ (⟨#[32, 116, 111, 32]⟩ : ByteArray)) ++ t167).size + 1 ≤ 9223372036854775807 then ((spec_l09Word.f k1 (⟨#[97, 110, 121, 32, 110, 101, 119, 32, 107, 110, 111, 119, 110, 32, 114, 101, 108, 97, 116, 101, 100, 32, 115, 116, 114, 97, 121]⟩ : ByteArray) ((rd_T33 l0 x5_1).f9)).bind fun t168 => (if ((((((((((x4_1 ++ t163) ++ (⟨#[32]⟩ : ByteArray)) ++ t164) ++ (⟨#[32]⟩ : ByteArray)) ++ t165) ++ (⟨#[32, 102, 114, 111, 109, 32]⟩ : ByteArray)) ++ t166) ++ (⟨#[32, 116, 111, 32]⟩ : ByteArray)) ++ t167) ++ (⟨#[32]⟩ : ByteArray)).size + t168.size ≤ 9223372036854775807 then (if (((((((((((x4_1 ++ t163) ++ (⟨#[32]⟩ : ByteArray)) ++ t164) ++ (⟨#[32]⟩ : ByteArray)) ++ t165) ++ (⟨#[32, 102, 114, 111, 109, 32]⟩ : ByteArray)) ++ t166) ++ (⟨#[32, 116, 111, 32]⟩ : ByteArray)) ++ t167) ++ (⟨#[32]⟩ : ByteArray)) ++ t168).size + 1 ≤ 9223372036854775807 then (spec_ShowRules.l0 k1 l0 ((((((((((((x4_1 ++ t163) ++ (⟨#[32]⟩ : ByteArray)) ++ t164) ++ (⟨#[32]⟩ : ByteArray)) ++ t165) ++ (⟨#[32, 102, 114, 111, 109, 32]⟩ : ByteArray)) ++ t166) ++ (⟨#[32, 116, 111, 32]⟩ : ByteArray)) ++ t167) ++ (⟨#[32]⟩ : ByteArray)) ++ t168) ++ (⟨#[10]⟩ : ByteArray)) (wrap64 (x5_1 + 1))) else (none)) else (none))) else (none))) else (none))) else (none)) else (none))) else (none)) else (none))) else (none)) else (none))) else (none)) else (none)) = some (r1, r2) := H
 have A1005 := Aside0.mk A10050
 clear A10050
 by_cases c1006 : x4_1.size + t163.size ≤ 9223372036854775807
 rw [if_pos c1006] at H
 have c1006b0 := eq_true c1006
 have c1006b1 : decide (x4_1.size + t163.size ≤ 9223372036854775807) = true := decide_eq_true c1006
 try have c1006b2 : (9223372036854775807 < x4_1.size + t163.size) = False := eq_false (Nat.not_lt.2 c1006)
 by_cases c1007 : (x4_1 ++ t163).size + 1 ≤ 9223372036854775807
 rw [if_pos c1007] at H
 have c1007b0 := eq_true c1007
 have c1007b1 : decide ((x4_1 ++ t163).size + 1 ≤ 9223372036854775807) = true := decide_eq_true c1007
 try have c1007b2 : (9223372036854775807 < (x4_1 ++ t163).size + 1) = False := eq_false (Nat.not_lt.2 c1007)
 (try (have c1007b5 := c1007b2; simp only [ByteArray.size_append] at c1007b5))
 replace H := Option.bind_eq_some_iff.mp H
 obtain ⟨t164, A10080, H⟩ := H
 replace H : (if ((x4_1 ++ t163) ++ (⟨#[32]⟩ : ByteArray)).size + t164.size ≤ 9223372036854775807 then (if (((x4_1 ++ t163) ++ (⟨#[32]⟩ : ByteArray)) ++ t164).size + 1 ≤ 9223372036854775807 then ((spec_l09ProtoName.f ((rd_T33 l0 x5_1).f2)).bind fun t165 => (if ((((x4_1 ++ t163) ++ (⟨#[32]⟩ : ByteArray)) ++ t164) ++ (⟨#[32]⟩ : ByteArray)).size + t165.size ≤ 9223372036854775807 then (if (((((x4_1 ++ t163) ++ (⟨#[32]⟩ : ByteArray)) ++ t164) ++ (⟨#[32]⟩ : ByteArray)) ++ t165).size + 6 ≤ 9223372036854775807 then ((spec_l09ShowSide.f k1 ((rd_T33 l0 x5_1).f3.f0) ((rd_T33 l0 x5_1).f3.f1) ((rd_T33 l0 x5_1).f4) ((rd_T33 l0 x5_1).f5)).bind fun t166 => (if ((((((x4_1 ++ t163) ++ (⟨#[32]⟩ : ByteArray)) ++ t164) ++ (⟨#[32]⟩ : ByteArray)) ++ t165) ++ (⟨#[32, 102, 114, 111, 109, 32]⟩ : ByteArray)).size + t166.size ≤ 9223372036854775807 then (if (((((((x4_1 ++ t163) ++ (⟨#[32]⟩ : ByteArray)) ++ t164) ++ (⟨#[32]⟩ : ByteArray)) ++ t165) ++ (⟨#[32, 102, 114, 111, 109, 32]⟩ : ByteArray)) ++ t166).size + 4 ≤ 9223372036854775807 then ((spec_l09ShowSide.f k1 ((rd_T33 l0 x5_1).f6.f0) ((rd_T33 l0 x5_1).f6.f1) ((rd_T33 l0 x5_1).f7) ((rd_T33 l0 x5_1).f8)).bind fun t167 => (if ((((((((x4_1 ++ t163) ++ (⟨#[32]⟩ : ByteArray)) ++ t164) ++ (⟨#[32]⟩ : ByteArray)) ++ t165) ++ (⟨#[32, 102, 114, 111, 109, 32]⟩ : ByteArray)) ++ t166) ++ (⟨#[32, 116, 111, 32]⟩ : ByteArray)).size + t167.size ≤ 9223372036854775807 then (if ((rd_T33 l0 x5_1).f9) = 0 then (if (((((((((x4_1 ++ t163) ++ (⟨#[32]⟩ : ByteArray)) ++ t164) ++ (⟨#[32]⟩ : ByteArray)) ++ t165) ++ (⟨#[32, 102, 114, 111, 109, 32]⟩ : ByteArray)) ++ t166) ++ (⟨#[32, 116, 111, 32]⟩ : ByteArray)) ++ t167).size + 1 ≤ 9223372036854775807 then (spec_ShowRules.l0 k1 l0 ((((((((((x4_1 ++ t163) ++ (⟨#[32]⟩ : ByteArray)) ++ t164) ++ (⟨#[32]⟩ : ByteArray)) ++ t165) ++ (⟨#[32, 102, 114, 111, 109, 32]⟩ : ByteArray)) ++ t166) ++ (⟨#[32, 116, 111, 32]⟩ : ByteArray)) ++ t167) ++ (⟨#[10]⟩ : ByteArray)) (wrap64 (x5_1 + 1))) else (none)) else (if (((((((((x4_1 ++ t163) ++ (⟨#[32]⟩ : ByteArray)) ++ t164) ++ (⟨#[32]⟩ : ByteArray)) ++ t165) ++ (⟨#[32, 102, 114, 111, 109, 32]⟩ : ByteArray)) ++ t166) ++ (⟨#[32, 116, 111, 32]⟩ : ByteArray)) ++ t167).size + 1 ≤ 9223372036854775807 then ((spec_l09Word.f k1 (⟨#[97, 110, 121, 32, 110, 101, 119, 32, 107, 110, 111, 119, 110, 32, 114, 101, 108, 97, 116, 101, 100, 32, 115, 116, 114, 97, 121]⟩ : ByteArray) ((rd_T33 l0 x5_1).f9)).bind fun t168 => (if ((((((((((x4_1 ++ t163) ++ (⟨#[32]⟩ : ByteArray)) ++ t164) ++ (⟨#[32]⟩ : ByteArray)) ++ t165) ++ (⟨#[32, 102, 114, 111, 109, 32]⟩ : ByteArray)) ++ t166) ++ (⟨#[32, 116, 111, 32]⟩ : ByteArray)) ++ t167) ++ (⟨#[32]⟩ : ByteArray)).size + t168.size ≤ 9223372036854775807 then (if (((((((((((x4_1 ++ t163) ++ (⟨#[32]⟩ : ByteArray)) ++ t164) ++ (⟨#[32]⟩ : ByteArray)) ++ t165) ++ (⟨#[32, 102, 114, 111, 109, 32]⟩ : ByteArray)) ++ t166) ++ (⟨#[32, 116, 111, 32]⟩ : ByteArray)) ++ t167) ++ (⟨#[32]⟩ : ByteArray)) ++ t168).size + 1 ≤ 9223372036854775807 then (spec_ShowRules.l0 k1 l0 ((((((((((((x4_1 ++ t163) ++ (⟨#[32]⟩ : ByteArray)) ++ t164) ++ (⟨#[32]⟩ : ByteArray)) ++ t165) ++ (⟨#[32, 102, 114, 111, 109, 32]⟩ : ByteArray)) ++ t166) ++ (⟨#[32, 116, 111, 32]⟩ : ByteArray)) ++ t167) ++ (⟨#[32]⟩ : ByteArray)) ++ t168) ++ (⟨#[10]⟩ : ByteArray)) (wrap64 (x5_1 + 1))) else (none)) else (none))) else (none))) else (none))) else (none)) else (none))) else (none)) else (none))) else (none)) else (none)) = some (r1, r2) := H
 have A1008 := Aside0.mk A10080
 clear A10080
 by_cases c1009 : ((x4_1 ++ t163) ++ (⟨#[32]⟩ : ByteArray)).size + t164.size ≤ 9223372036854775807
 rw [if_pos c1009] at H
 have c1009b0 := eq_true c1009
 have c1009b1 : decide (((x4_1 ++ t163) ++ (⟨#[32]⟩ : ByteArray)).size + t164.size ≤ 9223372036854775807) = true := decide_eq_true c1009
 try have c1009b2 : (9223372036854775807 < ((x4_1 ++ t163) ++ (⟨#[32]⟩ : ByteArray)).size + t164.size) = False := eq_false (Nat.not_lt.2 c1009)
 (try (have c1009b5 := c1009b2; simp only [ByteArray.size_append, show (⟨#[32]⟩ : ByteArray).size = 1 from rfl] at c1009b5))
 by_cases c1010 : (((x4_1 ++ t163) ++ (⟨#[32]⟩ : ByteArray)) ++ t164).size + 1 ≤ 9223372036854775807
 rw [if_pos c1010] at H
 have c1010b0 := eq_true c1010
 have c1010b1 : decide ((((x4_1 ++ t163) ++ (⟨#[32]⟩ : ByteArray)) ++ t164).size + 1 ≤ 9223372036854775807) = true := decide_eq_true c1010
 try have c1010b2 : (9223372036854775807 < (((x4_1 ++ t163) ++ (⟨#[32]⟩ : ByteArray)) ++ t164).size + 1) = False := eq_false (Nat.not_lt.2 c1010)
 (try (have c1010b5 := c1010b2; simp only [ByteArray.size_append, show (⟨#[32]⟩ : ByteArray).size = 1 from rfl] at c1010b5))
 replace H := Option.bind_eq_some_iff.mp H
 obtain ⟨t165, A10110, H⟩ := H
 replace H : (if ((((x4_1 ++ t163) ++ (⟨#[32]⟩ : ByteArray)) ++ t164) ++ (⟨#[32]⟩ : ByteArray)).size + t165.size ≤ 9223372036854775807 then (if (((((x4_1 ++ t163) ++ (⟨#[32]⟩ : ByteArray)) ++ t164) ++ (⟨#[32]⟩ : ByteArray)) ++ t165).size + 6 ≤ 9223372036854775807 then ((spec_l09ShowSide.f k1 ((rd_T33 l0 x5_1).f3.f0) ((rd_T33 l0 x5_1).f3.f1) ((rd_T33 l0 x5_1).f4) ((rd_T33 l0 x5_1).f5)).bind fun t166 => (if ((((((x4_1 ++ t163) ++ (⟨#[32]⟩ : ByteArray)) ++ t164) ++ (⟨#[32]⟩ : ByteArray)) ++ t165) ++ (⟨#[32, 102, 114, 111, 109, 32]⟩ : ByteArray)).size + t166.size ≤ 9223372036854775807 then (if (((((((x4_1 ++ t163) ++ (⟨#[32]⟩ : ByteArray)) ++ t164) ++ (⟨#[32]⟩ : ByteArray)) ++ t165) ++ (⟨#[32, 102, 114, 111, 109, 32]⟩ : ByteArray)) ++ t166).size + 4 ≤ 9223372036854775807 then ((spec_l09ShowSide.f k1 ((rd_T33 l0 x5_1).f6.f0) ((rd_T33 l0 x5_1).f6.f1) ((rd_T33 l0 x5_1).f7) ((rd_T33 l0 x5_1).f8)).bind fun t167 => (if ((((((((x4_1 ++ t163) ++ (⟨#[32]⟩ : ByteArray)) ++ t164) ++ (⟨#[32]⟩ : ByteArray)) ++ t165) ++ (⟨#[32, 102, 114, 111, 109, 32]⟩ : ByteArray)) ++ t166) ++ (⟨#[32, 116, 111, 32]⟩ : ByteArray)).size + t167.size ≤ 9223372036854775807 then (if ((rd_T33 l0 x5_1).f9) = 0 then (if (((((((((x4_1 ++ t163) ++ (⟨#[32]⟩ : ByteArray)) ++ t164) ++ (⟨#[32]⟩ : ByteArray)) ++ t165) ++ (⟨#[32, 102, 114, 111, 109, 32]⟩ : ByteArray)) ++ t166) ++ (⟨#[32, 116, 111, 32]⟩ : ByteArray)) ++ t167).size + 1 ≤ 9223372036854775807 then (spec_ShowRules.l0 k1 l0 ((((((((((x4_1 ++ t163) ++ (⟨#[32]⟩ : ByteArray)) ++ t164) ++ (⟨#[32]⟩ : ByteArray)) ++ t165) ++ (⟨#[32, 102, 114, 111, 109, 32]⟩ : ByteArray)) ++ t166) ++ (⟨#[32, 116, 111, 32]⟩ : ByteArray)) ++ t167) ++ (⟨#[10]⟩ : ByteArray)) (wrap64 (x5_1 + 1))) else (none)) else (if (((((((((x4_1 ++ t163) ++ (⟨#[32]⟩ : ByteArray)) ++ t164) ++ (⟨#[32]⟩ : ByteArray)) ++ t165) ++ (⟨#[32, 102, 114, 111, 109, 32]⟩ : ByteArray)) ++ t166) ++ (⟨#[32, 116, 111, 32]⟩ : ByteArray)) ++ t167).size + 1 ≤ 9223372036854775807 then ((spec_l09Word.f k1 (⟨#[97, 110, 121, 32, 110, 101, 119, 32, 107, 110, 111, 119, 110, 32, 114, 101, 108, 97, 116, 101, 100, 32, 115, 116, 114, 97, 121]⟩ : ByteArray) ((rd_T33 l0 x5_1).f9)).bind fun t168 => (if ((((((((((x4_1 ++ t163) ++ (⟨#[32]⟩ : ByteArray)) ++ t164) ++ (⟨#[32]⟩ : ByteArray)) ++ t165) ++ (⟨#[32, 102, 114, 111, 109, 32]⟩ : ByteArray)) ++ t166) ++ (⟨#[32, 116, 111, 32]⟩ : ByteArray)) ++ t167) ++ (⟨#[32]⟩ : ByteArray)).size + t168.size ≤ 9223372036854775807 then (if (((((((((((x4_1 ++ t163) ++ (⟨#[32]⟩ : ByteArray)) ++ t164) ++ (⟨#[32]⟩ : ByteArray)) ++ t165) ++ (⟨#[32, 102, 114, 111, 109, 32]⟩ : ByteArray)) ++ t166) ++ (⟨#[32, 116, 111, 32]⟩ : ByteArray)) ++ t167) ++ (⟨#[32]⟩ : ByteArray)) ++ t168).size + 1 ≤ 9223372036854775807 then (spec_ShowRules.l0 k1 l0 ((((((((((((x4_1 ++ t163) ++ (⟨#[32]⟩ : ByteArray)) ++ t164) ++ (⟨#[32]⟩ : ByteArray)) ++ t165) ++ (⟨#[32, 102, 114, 111, 109, 32]⟩ : ByteArray)) ++ t166) ++ (⟨#[32, 116, 111, 32]⟩ : ByteArray)) ++ t167) ++ (⟨#[32]⟩ : ByteArray)) ++ t168) ++ (⟨#[10]⟩ : ByteArray)) (wrap64 (x5_1 + 1))) else (none)) else (none))) else (none))) else (none))) else (none)) else (none))) else (none)) else (none)) = some (r1, r2) := H
 have A1011 := Aside0.mk A10110
 clear A10110
 by_cases c1012 : ((((x4_1 ++ t163) ++ (⟨#[32]⟩ : ByteArray)) ++ t164) ++ (⟨#[32]⟩ : ByteArray)).size + t165.size ≤ 9223372036854775807
 rw [if_pos c1012] at H
 have c1012b0 := eq_true c1012
 have c1012b1 : decide (((((x4_1 ++ t163) ++ (⟨#[32]⟩ : ByteArray)) ++ t164) ++ (⟨#[32]⟩ : ByteArray)).size + t165.size ≤ 9223372036854775807) = true := decide_eq_true c1012
 try have c1012b2 : (9223372036854775807 < ((((x4_1 ++ t163) ++ (⟨#[32]⟩ : ByteArray)) ++ t164) ++ (⟨#[32]⟩ : ByteArray)).size + t165.size) = False := eq_false (Nat.not_lt.2 c1012)
 (try (have c1012b5 := c1012b2; simp only [ByteArray.size_append, show (⟨#[32]⟩ : ByteArray).size = 1 from rfl] at c1012b5))
 by_cases c1013 : (((((x4_1 ++ t163) ++ (⟨#[32]⟩ : ByteArray)) ++ t164) ++ (⟨#[32]⟩ : ByteArray)) ++ t165).size + 6 ≤ 9223372036854775807
 rw [if_pos c1013] at H
 have c1013b0 := eq_true c1013
 have c1013b1 : decide ((((((x4_1 ++ t163) ++ (⟨#[32]⟩ : ByteArray)) ++ t164) ++ (⟨#[32]⟩ : ByteArray)) ++ t165).size + 6 ≤ 9223372036854775807) = true := decide_eq_true c1013
 try have c1013b2 : (9223372036854775807 < (((((x4_1 ++ t163) ++ (⟨#[32]⟩ : ByteArray)) ++ t164) ++ (⟨#[32]⟩ : ByteArray)) ++ t165).size + 6) = False := eq_false (Nat.not_lt.2 c1013)
 (try (have c1013b5 := c1013b2; simp only [ByteArray.size_append, show (⟨#[32]⟩ : ByteArray).size = 1 from rfl] at c1013b5))
 replace H := Option.bind_eq_some_iff.mp H
 obtain ⟨t166, A10140, H⟩ := H
 replace H : (if ((((((x4_1 ++ t163) ++ (⟨#[32]⟩ : ByteArray)) ++ t164) ++ (⟨#[32]⟩ : ByteArray)) ++ t165) ++ (⟨#[32, 102, 114, 111, 109, 32]⟩ : ByteArray)).size + t166.size ≤ 9223372036854775807 then (if (((((((x4_1 ++ t163) ++ (⟨#[32]⟩ : ByteArray)) ++ t164) ++ (⟨#[32]⟩ : ByteArray)) ++ t165) ++ (⟨#[32, 102, 114, 111, 109, 32]⟩ : ByteArray)) ++ t166).size + 4 ≤ 9223372036854775807 then ((spec_l09ShowSide.f k1 ((rd_T33 l0 x5_1).f6.f0) ((rd_T33 l0 x5_1).f6.f1) ((rd_T33 l0 x5_1).f7) ((rd_T33 l0 x5_1).f8)).bind fun t167 => (if ((((((((x4_1 ++ t163) ++ (⟨#[32]⟩ : ByteArray)) ++ t164) ++ (⟨#[32]⟩ : ByteArray)) ++ t165) ++ (⟨#[32, 102, 114, 111, 109, 32]⟩ : ByteArray)) ++ t166) ++ (⟨#[32, 116, 111, 32]⟩ : ByteArray)).size + t167.size ≤ 9223372036854775807 then (if ((rd_T33 l0 x5_1).f9) = 0 then (if (((((((((x4_1 ++ t163) ++ (⟨#[32]⟩ : ByteArray)) ++ t164) ++ (⟨#[32]⟩ : ByteArray)) ++ t165) ++ (⟨#[32, 102, 114, 111, 109, 32]⟩ : ByteArray)) ++ t166) ++ (⟨#[32, 116, 111, 32]⟩ : ByteArray)) ++ t167).size + 1 ≤ 9223372036854775807 then (spec_ShowRules.l0 k1 l0 ((((((((((x4_1 ++ t163) ++ (⟨#[32]⟩ : ByteArray)) ++ t164) ++ (⟨#[32]⟩ : ByteArray)) ++ t165) ++ (⟨#[32, 102, 114, 111, 109, 32]⟩ : ByteArray)) ++ t166) ++ (⟨#[32, 116, 111, 32]⟩ : ByteArray)) ++ t167) ++ (⟨#[10]⟩ : ByteArray)) (wrap64 (x5_1 + 1))) else (none)) else (if (((((((((x4_1 ++ t163) ++ (⟨#[32]⟩ : ByteArray)) ++ t164) ++ (⟨#[32]⟩ : ByteArray)) ++ t165) ++ (⟨#[32, 102, 114, 111, 109, 32]⟩ : ByteArray)) ++ t166) ++ (⟨#[32, 116, 111, 32]⟩ : ByteArray)) ++ t167).size + 1 ≤ 9223372036854775807 then ((spec_l09Word.f k1 (⟨#[97, 110, 121, 32, 110, 101, 119, 32, 107, 110, 111, 119, 110, 32, 114, 101, 108, 97, 116, 101, 100, 32, 115, 116, 114, 97, 121]⟩ : ByteArray) ((rd_T33 l0 x5_1).f9)).bind fun t168 => (if ((((((((((x4_1 ++ t163) ++ (⟨#[32]⟩ : ByteArray)) ++ t164) ++ (⟨#[32]⟩ : ByteArray)) ++ t165) ++ (⟨#[32, 102, 114, 111, 109, 32]⟩ : ByteArray)) ++ t166) ++ (⟨#[32, 116, 111, 32]⟩ : ByteArray)) ++ t167) ++ (⟨#[32]⟩ : ByteArray)).size + t168.size ≤ 9223372036854775807 then (if (((((((((((x4_1 ++ t163) ++ (⟨#[32]⟩ : ByteArray)) ++ t164) ++ (⟨#[32]⟩ : ByteArray)) ++ t165) ++ (⟨#[32, 102, 114, 111, 109, 32]⟩ : ByteArray)) ++ t166) ++ (⟨#[32, 116, 111, 32]⟩ : ByteArray)) ++ t167) ++ (⟨#[32]⟩ : ByteArray)) ++ t168).size + 1 ≤ 9223372036854775807 then (spec_ShowRules.l0 k1 l0 ((((((((((((x4_1 ++ t163) ++ (⟨#[32]⟩ : ByteArray)) ++ t164) ++ (⟨#[32]⟩ : ByteArray)) ++ t165) ++ (⟨#[32, 102, 114, 111, 109, 32]⟩ : ByteArray)) ++ t166) ++ (⟨#[32, 116, 111, 32]⟩ : ByteArray)) ++ t167) ++ (⟨#[32]⟩ : ByteArray)) ++ t168) ++ (⟨#[10]⟩ : ByteArray)) (wrap64 (x5_1 + 1))) else (none)) else (none))) else (none))) else (none))) else (none)) else (none)) = some (r1, r2) := H
 have A1014 := Aside0.mk A10140
 clear A10140
 by_cases c1015 : ((((((x4_1 ++ t163) ++ (⟨#[32]⟩ : ByteArray)) ++ t164) ++ (⟨#[32]⟩ : ByteArray)) ++ t165) ++ (⟨#[32, 102, 114, 111, 109, 32]⟩ : ByteArray)).size + t166.size ≤ 9223372036854775807
 rw [if_pos c1015] at H
 have c1015b0 := eq_true c1015
 have c1015b1 : decide (((((((x4_1 ++ t163) ++ (⟨#[32]⟩ : ByteArray)) ++ t164) ++ (⟨#[32]⟩ : ByteArray)) ++ t165) ++ (⟨#[32, 102, 114, 111, 109, 32]⟩ : ByteArray)).size + t166.size ≤ 9223372036854775807) = true := decide_eq_true c1015
 try have c1015b2 : (9223372036854775807 < ((((((x4_1 ++ t163) ++ (⟨#[32]⟩ : ByteArray)) ++ t164) ++ (⟨#[32]⟩ : ByteArray)) ++ t165) ++ (⟨#[32, 102, 114, 111, 109, 32]⟩ : ByteArray)).size + t166.size) = False := eq_false (Nat.not_lt.2 c1015)
 (try (have c1015b5 := c1015b2; simp only [ByteArray.size_append, show (⟨#[32, 102, 114, 111, 109, 32]⟩ : ByteArray).size = 6 from rfl, show (⟨#[32]⟩ : ByteArray).size = 1 from rfl] at c1015b5))
 by_cases c1016 : (((((((x4_1 ++ t163) ++ (⟨#[32]⟩ : ByteArray)) ++ t164) ++ (⟨#[32]⟩ : ByteArray)) ++ t165) ++ (⟨#[32, 102, 114, 111, 109, 32]⟩ : ByteArray)) ++ t166).size + 4 ≤ 9223372036854775807
 rw [if_pos c1016] at H
 have c1016b0 := eq_true c1016
 have c1016b1 : decide ((((((((x4_1 ++ t163) ++ (⟨#[32]⟩ : ByteArray)) ++ t164) ++ (⟨#[32]⟩ : ByteArray)) ++ t165) ++ (⟨#[32, 102, 114, 111, 109, 32]⟩ : ByteArray)) ++ t166).size + 4 ≤ 9223372036854775807) = true := decide_eq_true c1016
 try have c1016b2 : (9223372036854775807 < (((((((x4_1 ++ t163) ++ (⟨#[32]⟩ : ByteArray)) ++ t164) ++ (⟨#[32]⟩ : ByteArray)) ++ t165) ++ (⟨#[32, 102, 114, 111, 109, 32]⟩ : ByteArray)) ++ t166).size + 4) = False := eq_false (Nat.not_lt.2 c1016)
 (try (have c1016b5 := c1016b2; simp only [ByteArray.size_append, show (⟨#[32, 102, 114, 111, 109, 32]⟩ : ByteArray).size = 6 from rfl, show (⟨#[32]⟩ : ByteArray).size = 1 from rfl] at c1016b5))
 replace H := Option.bind_eq_some_iff.mp H
 obtain ⟨t167, A10170, H⟩ := H
 replace H : (if ((((((((x4_1 ++ t163) ++ (⟨#[32]⟩ : ByteArray)) ++ t164) ++ (⟨#[32]⟩ : ByteArray)) ++ t165) ++ (⟨#[32, 102, 114, 111, 109, 32]⟩ : ByteArray)) ++ t166) ++ (⟨#[32, 116, 111, 32]⟩ : ByteArray)).size + t167.size ≤ 9223372036854775807 then (if ((rd_T33 l0 x5_1).f9) = 0 then (if (((((((((x4_1 ++ t163) ++ (⟨#[32]⟩ : ByteArray)) ++ t164) ++ (⟨#[32]⟩ : ByteArray)) ++ t165) ++ (⟨#[32, 102, 114, 111, 109, 32]⟩ : ByteArray)) ++ t166) ++ (⟨#[32, 116, 111, 32]⟩ : ByteArray)) ++ t167).size + 1 ≤ 9223372036854775807 then (spec_ShowRules.l0 k1 l0 ((((((((((x4_1 ++ t163) ++ (⟨#[32]⟩ : ByteArray)) ++ t164) ++ (⟨#[32]⟩ : ByteArray)) ++ t165) ++ (⟨#[32, 102, 114, 111, 109, 32]⟩ : ByteArray)) ++ t166) ++ (⟨#[32, 116, 111, 32]⟩ : ByteArray)) ++ t167) ++ (⟨#[10]⟩ : ByteArray)) (wrap64 (x5_1 + 1))) else (none)) else (if (((((((((x4_1 ++ t163) ++ (⟨#[32]⟩ : ByteArray)) ++ t164) ++ (⟨#[32]⟩ : ByteArray)) ++ t165) ++ (⟨#[32, 102, 114, 111, 109, 32]⟩ : ByteArray)) ++ t166) ++ (⟨#[32, 116, 111, 32]⟩ : ByteArray)) ++ t167).size + 1 ≤ 9223372036854775807 then ((spec_l09Word.f k1 (⟨#[97, 110, 121, 32, 110, 101, 119, 32, 107, 110, 111, 119, 110, 32, 114, 101, 108, 97, 116, 101, 100, 32, 115, 116, 114, 97, 121]⟩ : ByteArray) ((rd_T33 l0 x5_1).f9)).bind fun t168 => (if ((((((((((x4_1 ++ t163) ++ (⟨#[32]⟩ : ByteArray)) ++ t164) ++ (⟨#[32]⟩ : ByteArray)) ++ t165) ++ (⟨#[32, 102, 114, 111, 109, 32]⟩ : ByteArray)) ++ t166) ++ (⟨#[32, 116, 111, 32]⟩ : ByteArray)) ++ t167) ++ (⟨#[32]⟩ : ByteArray)).size + t168.size ≤ 9223372036854775807 then (if (((((((((((x4_1 ++ t163) ++ (⟨#[32]⟩ : ByteArray)) ++ t164) ++ (⟨#[32]⟩ : ByteArray)) ++ t165) ++ (⟨#[32, 102, 114, 111, 109, 32]⟩ : ByteArray)) ++ t166) ++ (⟨#[32, 116, 111, 32]⟩ : ByteArray)) ++ t167) ++ (⟨#[32]⟩ : ByteArray)) ++ t168).size + 1 ≤ 9223372036854775807 then (spec_ShowRules.l0 k1 l0 ((((((((((((x4_1 ++ t163) ++ (⟨#[32]⟩ : ByteArray)) ++ t164) ++ (⟨#[32]⟩ : ByteArray)) ++ t165) ++ (⟨#[32, 102, 114, 111, 109, 32]⟩ : ByteArray)) ++ t166) ++ (⟨#[32, 116, 111, 32]⟩ : ByteArray)) ++ t167) ++ (⟨#[32]⟩ : ByteArray)) ++ t168) ++ (⟨#[10]⟩ : ByteArray)) (wrap64 (x5_1 + 1))) else (none)) else (none))) else (none))) else (none)) = some (r1, r2) := H
 have A1017 := Aside0.mk A10170
 clear A10170
 by_cases c1018 : ((((((((x4_1 ++ t163) ++ (⟨#[32]⟩ : ByteArray)) ++ t164) ++ (⟨#[32]⟩ : ByteArray)) ++ t165) ++ (⟨#[32, 102, 114, 111, 109, 32]⟩ : ByteArray)) ++ t166) ++ (⟨#[32, 116, 111, 32]⟩ : ByteArray)).size + t167.size ≤ 9223372036854775807
 rw [if_pos c1018] at H
 have c1018b0 := eq_true c1018
 have c1018b1 : decide (((((((((x4_1 ++ t163) ++ (⟨#[32]⟩ : ByteArray)) ++ t164) ++ (⟨#[32]⟩ : ByteArray)) ++ t165) ++ (⟨#[32, 102, 114, 111, 109, 32]⟩ : ByteArray)) ++ t166) ++ (⟨#[32, 116, 111, 32]⟩ : ByteArray)).size + t167.size ≤ 9223372036854775807) = true := decide_eq_true c1018
 try have c1018b2 : (9223372036854775807 < ((((((((x4_1 ++ t163) ++ (⟨#[32]⟩ : ByteArray)) ++ t164) ++ (⟨#[32]⟩ : ByteArray)) ++ t165) ++ (⟨#[32, 102, 114, 111, 109, 32]⟩ : ByteArray)) ++ t166) ++ (⟨#[32, 116, 111, 32]⟩ : ByteArray)).size + t167.size) = False := eq_false (Nat.not_lt.2 c1018)
 (try (have c1018b5 := c1018b2; simp only [ByteArray.size_append, show (⟨#[32, 102, 114, 111, 109, 32]⟩ : ByteArray).size = 6 from rfl, show (⟨#[32, 116, 111, 32]⟩ : ByteArray).size = 4 from rfl, show (⟨#[32]⟩ : ByteArray).size = 1 from rfl] at c1018b5))
 by_cases c1019 : ((rd_T33 l0 x5_1).f9) = 0
 rw [if_pos c1019] at H
 have c1019b0 : (((rd_T33 l0 x5_1).f9) == 0) = true := beq_iff_eq.mpr c1019
 have c1019b1 : (((rd_T33 l0 x5_1).f9) != 0) = false := bne_eq_false_iff_eq.mpr c1019
 clear c1019
 by_cases c1020 : (((((((((x4_1 ++ t163) ++ (⟨#[32]⟩ : ByteArray)) ++ t164) ++ (⟨#[32]⟩ : ByteArray)) ++ t165) ++ (⟨#[32, 102, 114, 111, 109, 32]⟩ : ByteArray)) ++ t166) ++ (⟨#[32, 116, 111, 32]⟩ : ByteArray)) ++ t167).size + 1 ≤ 9223372036854775807
 rw [if_pos c1020] at H
 have c1020b0 := eq_true c1020
 have c1020b1 : decide ((((((((((x4_1 ++ t163) ++ (⟨#[32]⟩ : ByteArray)) ++ t164) ++ (⟨#[32]⟩ : ByteArray)) ++ t165) ++ (⟨#[32, 102, 114, 111, 109, 32]⟩ : ByteArray)) ++ t166) ++ (⟨#[32, 116, 111, 32]⟩ : ByteArray)) ++ t167).size + 1 ≤ 9223372036854775807) = true := decide_eq_true c1020
 try have c1020b2 : (9223372036854775807 < (((((((((x4_1 ++ t163) ++ (⟨#[32]⟩ : ByteArray)) ++ t164) ++ (⟨#[32]⟩ : ByteArray)) ++ t165) ++ (⟨#[32, 102, 114, 111, 109, 32]⟩ : ByteArray)) ++ t166) ++ (⟨#[32, 116, 111, 32]⟩ : ByteArray)) ++ t167).size + 1) = False := eq_false (Nat.not_lt.2 c1020)
 (try (have c1020b5 := c1020b2; simp only [ByteArray.size_append, show (⟨#[32, 102, 114, 111, 109, 32]⟩ : ByteArray).size = 6 from rfl, show (⟨#[32, 116, 111, 32]⟩ : ByteArray).size = 4 from rfl, show (⟨#[32]⟩ : ByteArray).size = 1 from rfl] at c1020b5))
 have H' := Aside0.mk H
 clear H
 have bq1_ : True := trivial
 rotate_left
 rw [if_neg c1020] at H
 exact absurd H (by simp)
 rw [if_neg c1019] at H
 have c1019b0 : (((rd_T33 l0 x5_1).f9) == 0) = false := beq_eq_false_iff_ne.mpr c1019
 have c1019b1 : (((rd_T33 l0 x5_1).f9) != 0) = true := bne_iff_ne.mpr c1019
 by_cases c1021 : (((((((((x4_1 ++ t163) ++ (⟨#[32]⟩ : ByteArray)) ++ t164) ++ (⟨#[32]⟩ : ByteArray)) ++ t165) ++ (⟨#[32, 102, 114, 111, 109, 32]⟩ : ByteArray)) ++ t166) ++ (⟨#[32, 116, 111, 32]⟩ : ByteArray)) ++ t167).size + 1 ≤ 9223372036854775807
 rw [if_pos c1021] at H
 have c1021b0 := eq_true c1021
 have c1021b1 : decide ((((((((((x4_1 ++ t163) ++ (⟨#[32]⟩ : ByteArray)) ++ t164) ++ (⟨#[32]⟩ : ByteArray)) ++ t165) ++ (⟨#[32, 102, 114, 111, 109, 32]⟩ : ByteArray)) ++ t166) ++ (⟨#[32, 116, 111, 32]⟩ : ByteArray)) ++ t167).size + 1 ≤ 9223372036854775807) = true := decide_eq_true c1021
 try have c1021b2 : (9223372036854775807 < (((((((((x4_1 ++ t163) ++ (⟨#[32]⟩ : ByteArray)) ++ t164) ++ (⟨#[32]⟩ : ByteArray)) ++ t165) ++ (⟨#[32, 102, 114, 111, 109, 32]⟩ : ByteArray)) ++ t166) ++ (⟨#[32, 116, 111, 32]⟩ : ByteArray)) ++ t167).size + 1) = False := eq_false (Nat.not_lt.2 c1021)
 (try (have c1021b5 := c1021b2; simp only [ByteArray.size_append, show (⟨#[32, 102, 114, 111, 109, 32]⟩ : ByteArray).size = 6 from rfl, show (⟨#[32, 116, 111, 32]⟩ : ByteArray).size = 4 from rfl, show (⟨#[32]⟩ : ByteArray).size = 1 from rfl] at c1021b5))
 replace H := Option.bind_eq_some_iff.mp H
 obtain ⟨t168, A10220, H⟩ := H
 replace H : (if ((((((((((x4_1 ++ t163) ++ (⟨#[32]⟩ : ByteArray)) ++ t164) ++ (⟨#[32]⟩ : ByteArray)) ++ t165) ++ (⟨#[32, 102, 114, 111, 109, 32]⟩ : ByteArray)) ++ t166) ++ (⟨#[32, 116, 111, 32]⟩ : ByteArray)) ++ t167) ++ (⟨#[32]⟩ : ByteArray)).size + t168.size ≤ 9223372036854775807 then (if (((((((((((x4_1 ++ t163) ++ (⟨#[32]⟩ : ByteArray)) ++ t164) ++ (⟨#[32]⟩ : ByteArray)) ++ t165) ++ (⟨#[32, 102, 114, 111, 109, 32]⟩ : ByteArray)) ++ t166) ++ (⟨#[32, 116, 111, 32]⟩ : ByteArray)) ++ t167) ++ (⟨#[32]⟩ : ByteArray)) ++ t168).size + 1 ≤ 9223372036854775807 then (spec_ShowRules.l0 k1 l0 ((((((((((((x4_1 ++ t163) ++ (⟨#[32]⟩ : ByteArray)) ++ t164) ++ (⟨#[32]⟩ : ByteArray)) ++ t165) ++ (⟨#[32, 102, 114, 111, 109, 32]⟩ : ByteArray)) ++ t166) ++ (⟨#[32, 116, 111, 32]⟩ : ByteArray)) ++ t167) ++ (⟨#[32]⟩ : ByteArray)) ++ t168) ++ (⟨#[10]⟩ : ByteArray)) (wrap64 (x5_1 + 1))) else (none)) else (none)) = some (r1, r2) := H
 have A1022 := Aside0.mk A10220
 clear A10220
 by_cases c1023 : ((((((((((x4_1 ++ t163) ++ (⟨#[32]⟩ : ByteArray)) ++ t164) ++ (⟨#[32]⟩ : ByteArray)) ++ t165) ++ (⟨#[32, 102, 114, 111, 109, 32]⟩ : ByteArray)) ++ t166) ++ (⟨#[32, 116, 111, 32]⟩ : ByteArray)) ++ t167) ++ (⟨#[32]⟩ : ByteArray)).size + t168.size ≤ 9223372036854775807
 rw [if_pos c1023] at H
 have c1023b0 := eq_true c1023
 have c1023b1 : decide (((((((((((x4_1 ++ t163) ++ (⟨#[32]⟩ : ByteArray)) ++ t164) ++ (⟨#[32]⟩ : ByteArray)) ++ t165) ++ (⟨#[32, 102, 114, 111, 109, 32]⟩ : ByteArray)) ++ t166) ++ (⟨#[32, 116, 111, 32]⟩ : ByteArray)) ++ t167) ++ (⟨#[32]⟩ : ByteArray)).size + t168.size ≤ 9223372036854775807) = true := decide_eq_true c1023
 try have c1023b2 : (9223372036854775807 < ((((((((((x4_1 ++ t163) ++ (⟨#[32]⟩ : ByteArray)) ++ t164) ++ (⟨#[32]⟩ : ByteArray)) ++ t165) ++ (⟨#[32, 102, 114, 111, 109, 32]⟩ : ByteArray)) ++ t166) ++ (⟨#[32, 116, 111, 32]⟩ : ByteArray)) ++ t167) ++ (⟨#[32]⟩ : ByteArray)).size + t168.size) = False := eq_false (Nat.not_lt.2 c1023)
 (try (have c1023b5 := c1023b2; simp only [ByteArray.size_append, show (⟨#[32, 102, 114, 111, 109, 32]⟩ : ByteArray).size = 6 from rfl, show (⟨#[32, 116, 111, 32]⟩ : ByteArray).size = 4 from rfl, show (⟨#[32]⟩ : ByteArray).size = 1 from rfl] at c1023b5))
 by_cases c1024 : (((((((((((x4_1 ++ t163) ++ (⟨#[32]⟩ : ByteArray)) ++ t164) ++ (⟨#[32]⟩ : ByteArray)) ++ t165) ++ (⟨#[32, 102, 114, 111, 109, 32]⟩ : ByteArray)) ++ t166) ++ (⟨#[32, 116, 111, 32]⟩ : ByteArray)) ++ t167) ++ (⟨#[32]⟩ : ByteArray)) ++ t168).size + 1 ≤ 9223372036854775807
 rw [if_pos c1024] at H
 have c1024b0 := eq_true c1024
 have c1024b1 : decide ((((((((((((x4_1 ++ t163) ++ (⟨#[32]⟩ : ByteArray)) ++ t164) ++ (⟨#[32]⟩ : ByteArray)) ++ t165) ++ (⟨#[32, 102, 114, 111, 109, 32]⟩ : ByteArray)) ++ t166) ++ (⟨#[32, 116, 111, 32]⟩ : ByteArray)) ++ t167) ++ (⟨#[32]⟩ : ByteArray)) ++ t168).size + 1 ≤ 9223372036854775807) = true := decide_eq_true c1024
 try have c1024b2 : (9223372036854775807 < (((((((((((x4_1 ++ t163) ++ (⟨#[32]⟩ : ByteArray)) ++ t164) ++ (⟨#[32]⟩ : ByteArray)) ++ t165) ++ (⟨#[32, 102, 114, 111, 109, 32]⟩ : ByteArray)) ++ t166) ++ (⟨#[32, 116, 111, 32]⟩ : ByteArray)) ++ t167) ++ (⟨#[32]⟩ : ByteArray)) ++ t168).size + 1) = False := eq_false (Nat.not_lt.2 c1024)
 (try (have c1024b5 := c1024b2; simp only [ByteArray.size_append, show (⟨#[32, 102, 114, 111, 109, 32]⟩ : ByteArray).size = 6 from rfl, show (⟨#[32, 116, 111, 32]⟩ : ByteArray).size = 4 from rfl, show (⟨#[32]⟩ : ByteArray).size = 1 from rfl] at c1024b5))
 have H' := Aside0.mk H
 clear H
 have bq1_ : True := trivial
 rotate_left
 rw [if_neg c1024] at H
 exact absurd H (by simp)
 rw [if_neg c1023] at H
 exact absurd H (by simp)
 rw [if_neg c1021] at H
 exact absurd H (by simp)
 rw [if_neg c1018] at H
 exact absurd H (by simp)
 rw [if_neg c1016] at H
 exact absurd H (by simp)
 rw [if_neg c1015] at H
 exact absurd H (by simp)
 rw [if_neg c1013] at H
 exact absurd H (by simp)
 rw [if_neg c1012] at H
 exact absurd H (by simp)
 rw [if_neg c1010] at H
 exact absurd H (by simp)
 rw [if_neg c1009] at H
 exact absurd H (by simp)
 rw [if_neg c1007] at H
 exact absurd H (by simp)
 rw [if_neg c1006] at H
 exact absurd H (by simp)
 replace c1004 := Bool.eq_false_iff.mpr c1004
 subst c1004
 have H1 : (some ((⟨#[]⟩ : ByteArray), 1)) = some (r1, r2) := by rw [if_neg (show ¬ (false = true) by decide)] at H; exact H
 clear H
 have H := H1
 clear H1
 simp only [Option.some.injEq, Prod.mk.injEq] at H
 obtain ⟨rfl, rfl⟩ := H
 rotate_left
 rw [if_neg c1002] at H
 exact absurd H (by simp)
 rw [if_neg c1001] at H
 have c1001b0 : decide (x5_1 < (l0.length : Int)) = false := decide_eq_false c1001
 clear c1001
 simp only [Option.some.injEq, Prod.mk.injEq] at H
 obtain ⟨rfl, rfl⟩ := H
 rotate_left
 iterate 3 (
 focus (
 have p160 : 0 ≤ (x5_1 : Int) := of_decide_eq_true (by first | (with_reducible assumption) | assumption)
 have q160 : x5_1 < (l0.length : Int) := of_decide_eq_true (by first | (with_reducible assumption) | assumption)
 obtain ⟨ad160, e160, hx160_0, hx160_1, hx160_2, hx160_3, hx160_4, hx160_5, hx160_6, hx160_7, hx160_8, hx160_9, hx160_10, hx160_11⟩ := at_T33 HR0.out x5_1 p160 q160
 cases e160
 replace hx160_0 := (HB.out.cell (World.block_lt_of_cell? w _ hx160_0)).trans hx160_0
 replace hx160_1 := (HB.out.cell (World.block_lt_of_cell? w _ hx160_1)).trans hx160_1
 replace hx160_2 := (HB.out.cell (World.block_lt_of_cell? w _ hx160_2)).trans hx160_2
 replace hx160_3 := (HB.out.cell (World.block_lt_of_cell? w _ hx160_3)).trans hx160_3
 replace hx160_4 := (HB.out.cell (World.block_lt_of_cell? w _ hx160_4)).trans hx160_4
 replace hx160_5 := (HB.out.cell (World.block_lt_of_cell? w _ hx160_5)).trans hx160_5
 replace hx160_6 := (HB.out.cell (World.block_lt_of_cell? w _ hx160_6)).trans hx160_6
 replace hx160_7 := (HB.out.cell (World.block_lt_of_cell? w _ hx160_7)).trans hx160_7
 replace hx160_8 := (HB.out.cell (World.block_lt_of_cell? w _ hx160_8)).trans hx160_8
 replace hx160_9 := (HB.out.cell (World.block_lt_of_cell? w _ hx160_9)).trans hx160_9
 replace hx160_10 := (HB.out.cell (World.block_lt_of_cell? w _ hx160_10)).trans hx160_10
 replace hx160_11 := (HB.out.cell (World.block_lt_of_cell? w _ hx160_11)).trans hx160_11
 replace p160 := eq_true p160
 replace q160 := eq_true q160
 try go_wp2_with (first | ((with_reducible refine gate_dst (N := 6) rfl ?_); refine box_event ?hg (N := 6) ?hd (cs := #[.int .i64 0, .int .i64 0, .int .i64 0, .int .i64 0, .int .i64 0, .int .i64 0, .int .i64 0, .int .i64 0, .int .i64 0, .int .i64 0, .int .i64 0, .int .i64 0]) (t := 33) ?hr ?_; (case hd => rfl); (case hg => rfl); (case hr => first | (go_simp; done) | (go_simp; rfl)); intro gb161 hg w2001 hbox hb; have n0_ := Aside0.mk (below_step wB hb); have n1_ := Aside0.mk (hbox); have n2_ := Aside0.mk ((by rw [hg]; exact (below_size wB) : w.heap.size ≤ gb161)); have n3_ := Aside0.mk ((by rw [hg]; exact (below_size wB) : w.heap.size ≤ gb161)); clear HB; have HB := n0_; have BK161 := n1_; have GW161 := n2_; have GE161 := n3_; clear n0_ n1_ n2_ n3_; clear hb hbox hg; obtain ⟨⟨hcz2002_0, hcz2002_1, hcz2002_2, hcz2002_3, hcz2002_4, hcz2002_5, hcz2002_6, hcz2002_7, hcz2002_8, hcz2002_9, hcz2002_10, hcz2002_11⟩, hfz2002_0, hfz2002_1, hfz2002_2, hfz2002_3, hfz2002_4, hfz2002_5, hfz2002_6, hfz2002_7, hfz2002_8, hfz2002_9, hfz2002_10, hfz2002_11⟩ := cells12 BK161.out) | ((with_reducible refine gate_store (t := 33) (p := 6) rfl ?_); (try (rw [drewN_self w2001]; generalize hq_ : World.drewN w2001 _ = w2001; have n0_ := Aside0.mk (blk_at hq_ BK161.out); have n1_ := Aside0.mk (below_at hq_ HB.out); clear hq_ BK161 HB; have BK161 := n0_; have HB := n1_; clear n0_ n1_; (try (obtain ⟨⟨hcyBK161_0, hcyBK161_1, hcyBK161_2, hcyBK161_3, hcyBK161_4, hcyBK161_5, hcyBK161_6, hcyBK161_7, hcyBK161_8, hcyBK161_9, hcyBK161_10, hcyBK161_11⟩, hfyBK161_0, hfyBK161_1, hfyBK161_2, hfyBK161_3, hfyBK161_4, hfyBK161_5, hfyBK161_6, hfyBK161_7, hfyBK161_8, hfyBK161_9, hfyBK161_10, hfyBK161_11⟩ := cells12 BK161.out)))); refine store_event (t := 33) (p := 6) (v := ?_) (w1 := ((((((((((((w2001.setCell ⟨gb161, 0, none⟩ (.int .i64 ((rd_T33 l0 x5_1).f0))).setCell ⟨gb161, 1, none⟩ (.int .i64 ((rd_T33 l0 x5_1).f1))).setCell ⟨gb161, 2, none⟩ (.int .i64 ((rd_T33 l0 x5_1).f2))).setCell ⟨gb161, 3, none⟩ (.int .i64 ((rd_T33 l0 x5_1).f3.f0))).setCell ⟨gb161, 4, none⟩ (.int .i64 ((rd_T33 l0 x5_1).f3.f1))).setCell ⟨gb161, 5, none⟩ (.int .i64 ((rd_T33 l0 x5_1).f4))).setCell ⟨gb161, 6, none⟩ (.int .i64 ((rd_T33 l0 x5_1).f5))).setCell ⟨gb161, 7, none⟩ (.int .i64 ((rd_T33 l0 x5_1).f6.f0))).setCell ⟨gb161, 8, none⟩ (.int .i64 ((rd_T33 l0 x5_1).f6.f1))).setCell ⟨gb161, 9, none⟩ (.int .i64 ((rd_T33 l0 x5_1).f7))).setCell ⟨gb161, 10, none⟩ (.int .i64 ((rd_T33 l0 x5_1).f8))).setCell ⟨gb161, 11, none⟩ (.int .i64 ((rd_T33 l0 x5_1).f9)))) ?hg ?ho ?hn ?hr ?_; (case ho => rfl); (case hg => rfl); (case hn => rfl); (case hr => first | (go_simp; done) | (go_simp; rfl)); intro w2003 hw; have n0_ : Aside0 (w2003.heap[gb161]? = some (.cells #[.int .i64 ((rd_T33 l0 x5_1).f0), .int .i64 ((rd_T33 l0 x5_1).f1), .int .i64 ((rd_T33 l0 x5_1).f2), .int .i64 ((rd_T33 l0 x5_1).f3.f0), .int .i64 ((rd_T33 l0 x5_1).f3.f1), .int .i64 ((rd_T33 l0 x5_1).f4), .int .i64 ((rd_T33 l0 x5_1).f5), .int .i64 ((rd_T33 l0 x5_1).f6.f0), .int .i64 ((rd_T33 l0 x5_1).f6.f1), .int .i64 ((rd_T33 l0 x5_1).f7), .int .i64 ((rd_T33 l0 x5_1).f8), .int .i64 ((rd_T33 l0 x5_1).f9)] 33 (0, 0))) := ⟨(by rw [hw]; exact (by (with_reducible repeat (first | refine blk_drewN ?_ _ | refine blk_drew ?_ | refine blk_alloc ?_ _)); refine blk_put (cs := #[.int .i64 ((rd_T33 l0 x5_1).f0), .int .i64 ((rd_T33 l0 x5_1).f1), .int .i64 ((rd_T33 l0 x5_1).f2), .int .i64 ((rd_T33 l0 x5_1).f3.f0), .int .i64 ((rd_T33 l0 x5_1).f3.f1), .int .i64 ((rd_T33 l0 x5_1).f4), .int .i64 ((rd_T33 l0 x5_1).f5), .int .i64 ((rd_T33 l0 x5_1).f6.f0), .int .i64 ((rd_T33 l0 x5_1).f6.f1), .int .i64 ((rd_T33 l0 x5_1).f7), .int .i64 ((rd_T33 l0 x5_1).f8), .int .i64 0]) ?_ 11 _ rfl; (with_reducible repeat (first | refine blk_drewN ?_ _ | refine blk_drew ?_ | refine blk_alloc ?_ _)); refine blk_put (cs := #[.int .i64 ((rd_T33 l0 x5_1).f0), .int .i64 ((rd_T33 l0 x5_1).f1), .int .i64 ((rd_T33 l0 x5_1).f2), .int .i64 ((rd_T33 l0 x5_1).f3.f0), .int .i64 ((rd_T33 l0 x5_1).f3.f1), .int .i64 ((rd_T33 l0 x5_1).f4), .int .i64 ((rd_T33 l0 x5_1).f5), .int .i64 ((rd_T33 l0 x5_1).f6.f0), .int .i64 ((rd_T33 l0 x5_1).f6.f1), .int .i64 ((rd_T33 l0 x5_1).f7), .int .i64 0, .int .i64 0]) ?_ 10 _ rfl; (with_reducible repeat (first | refine blk_drewN ?_ _ | refine blk_drew ?_ | refine blk_alloc ?_ _)); refine blk_put (cs := #[.int .i64 ((rd_T33 l0 x5_1).f0), .int .i64 ((rd_T33 l0 x5_1).f1), .int .i64 ((rd_T33 l0 x5_1).f2), .int .i64 ((rd_T33 l0 x5_1).f3.f0), .int .i64 ((rd_T33 l0 x5_1).f3.f1), .int .i64 ((rd_T33 l0 x5_1).f4), .int .i64 ((rd_T33 l0 x5_1).f5), .int .i64 ((rd_T33 l0 x5_1).f6.f0), .int .i64 ((rd_T33 l0 x5_1).f6.f1), .int .i64 0, .int .i64 0, .int .i64 0]) ?_ 9 _ rfl; (with_reducible repeat (first | refine blk_drewN ?_ _ | refine blk_drew ?_ | refine blk_alloc ?_ _)); refine blk_put (cs := #[.int .i64 ((rd_T33 l0 x5_1).f0), .int .i64 ((rd_T33 l0 x5_1).f1), .int .i64 ((rd_T33 l0 x5_1).f2), .int .i64 ((rd_T33 l0 x5_1).f3.f0), .int .i64 ((rd_T33 l0 x5_1).f3.f1), .int .i64 ((rd_T33 l0 x5_1).f4), .int .i64 ((rd_T33 l0 x5_1).f5), .int .i64 ((rd_T33 l0 x5_1).f6.f0), .int .i64 0, .int .i64 0, .int .i64 0, .int .i64 0]) ?_ 8 _ rfl; (with_reducible repeat (first | refine blk_drewN ?_ _ | refine blk_drew ?_ | refine blk_alloc ?_ _)); refine blk_put (cs := #[.int .i64 ((rd_T33 l0 x5_1).f0), .int .i64 ((rd_T33 l0 x5_1).f1), .int .i64 ((rd_T33 l0 x5_1).f2), .int .i64 ((rd_T33 l0 x5_1).f3.f0), .int .i64 ((rd_T33 l0 x5_1).f3.f1), .int .i64 ((rd_T33 l0 x5_1).f4), .int .i64 ((rd_T33 l0 x5_1).f5), .int .i64 0, .int .i64 0, .int .i64 0, .int .i64 0, .int .i64 0]) ?_ 7 _ rfl; (with_reducible repeat (first | refine blk_drewN ?_ _ | refine blk_drew ?_ | refine blk_alloc ?_ _)); refine blk_put (cs := #[.int .i64 ((rd_T33 l0 x5_1).f0), .int .i64 ((rd_T33 l0 x5_1).f1), .int .i64 ((rd_T33 l0 x5_1).f2), .int .i64 ((rd_T33 l0 x5_1).f3.f0), .int .i64 ((rd_T33 l0 x5_1).f3.f1), .int .i64 ((rd_T33 l0 x5_1).f4), .int .i64 0, .int .i64 0, .int .i64 0, .int .i64 0, .int .i64 0, .int .i64 0]) ?_ 6 _ rfl; (with_reducible repeat (first | refine blk_drewN ?_ _ | refine blk_drew ?_ | refine blk_alloc ?_ _)); refine blk_put (cs := #[.int .i64 ((rd_T33 l0 x5_1).f0), .int .i64 ((rd_T33 l0 x5_1).f1), .int .i64 ((rd_T33 l0 x5_1).f2), .int .i64 ((rd_T33 l0 x5_1).f3.f0), .int .i64 ((rd_T33 l0 x5_1).f3.f1), .int .i64 0, .int .i64 0, .int .i64 0, .int .i64 0, .int .i64 0, .int .i64 0, .int .i64 0]) ?_ 5 _ rfl; (with_reducible repeat (first | refine blk_drewN ?_ _ | refine blk_drew ?_ | refine blk_alloc ?_ _)); refine blk_put (cs := #[.int .i64 ((rd_T33 l0 x5_1).f0), .int .i64 ((rd_T33 l0 x5_1).f1), .int .i64 ((rd_T33 l0 x5_1).f2), .int .i64 ((rd_T33 l0 x5_1).f3.f0), .int .i64 0, .int .i64 0, .int .i64 0, .int .i64 0, .int .i64 0, .int .i64 0, .int .i64 0, .int .i64 0]) ?_ 4 _ rfl; (with_reducible repeat (first | refine blk_drewN ?_ _ | refine blk_drew ?_ | refine blk_alloc ?_ _)); refine blk_put (cs := #[.int .i64 ((rd_T33 l0 x5_1).f0), .int .i64 ((rd_T33 l0 x5_1).f1), .int .i64 ((rd_T33 l0 x5_1).f2), .int .i64 0, .int .i64 0, .int .i64 0, .int .i64 0, .int .i64 0, .int .i64 0, .int .i64 0, .int .i64 0, .int .i64 0]) ?_ 3 _ rfl; (with_reducible repeat (first | refine blk_drewN ?_ _ | refine blk_drew ?_ | refine blk_alloc ?_ _)); refine blk_put (cs := #[.int .i64 ((rd_T33 l0 x5_1).f0), .int .i64 ((rd_T33 l0 x5_1).f1), .int .i64 0, .int .i64 0, .int .i64 0, .int .i64 0, .int .i64 0, .int .i64 0, .int .i64 0, .int .i64 0, .int .i64 0, .int .i64 0]) ?_ 2 _ rfl; (with_reducible repeat (first | refine blk_drewN ?_ _ | refine blk_drew ?_ | refine blk_alloc ?_ _)); refine blk_put (cs := #[.int .i64 ((rd_T33 l0 x5_1).f0), .int .i64 0, .int .i64 0, .int .i64 0, .int .i64 0, .int .i64 0, .int .i64 0, .int .i64 0, .int .i64 0, .int .i64 0, .int .i64 0, .int .i64 0]) ?_ 1 _ rfl; (with_reducible repeat (first | refine blk_drewN ?_ _ | refine blk_drew ?_ | refine blk_alloc ?_ _)); refine blk_put (cs := #[.int .i64 0, .int .i64 0, .int .i64 0, .int .i64 0, .int .i64 0, .int .i64 0, .int .i64 0, .int .i64 0, .int .i64 0, .int .i64 0, .int .i64 0, .int .i64 0]) ?_ 0 _ rfl; (with_reducible repeat (first | refine blk_drewN ?_ _ | refine blk_drew ?_ | refine blk_alloc ?_ _)); exact BK161.out))⟩; have n1_ : Aside0 (Below w.heap.size w w2003) := ⟨(by rw [hw]; exact wB)⟩; clear hw; clear BK161; clear HB; have BK161 := n0_; have HB := n1_; clear n0_ n1_; obtain ⟨⟨hcz2004_0, hcz2004_1, hcz2004_2, hcz2004_3, hcz2004_4, hcz2004_5, hcz2004_6, hcz2004_7, hcz2004_8, hcz2004_9, hcz2004_10, hcz2004_11⟩, hfz2004_0, hfz2004_1, hfz2004_2, hfz2004_3, hfz2004_4, hfz2004_5, hfz2004_6, hfz2004_7, hfz2004_8, hfz2004_9, hfz2004_10, hfz2004_11⟩ := cells12 BK161.out) | ((with_reducible refine gate_callee (f := 9) rfl ?_); refine goesL_ (some 21) rfl rfl Tryd.func9 (by kernel_rfl) rfl #[.agg #[.int .i64 ((rd_T33 l0 x5_1).f0), .int .i64 ((rd_T33 l0 x5_1).f1), .int .i64 ((rd_T33 l0 x5_1).f2), .int .i64 ((rd_T33 l0 x5_1).f3.f0), .int .i64 ((rd_T33 l0 x5_1).f3.f1), .int .i64 ((rd_T33 l0 x5_1).f4), .int .i64 ((rd_T33 l0 x5_1).f5), .int .i64 ((rd_T33 l0 x5_1).f6.f0), .int .i64 ((rd_T33 l0 x5_1).f6.f1), .int .i64 ((rd_T33 l0 x5_1).f7), .int .i64 ((rd_T33 l0 x5_1).f8), .int .i64 ((rd_T33 l0 x5_1).f9)]] rfl wT ?_; (with_reducible refine (spec_l09OK.calls k1 ((rd_T33 l0 x5_1).f0) ((rd_T33 l0 x5_1).f1) ((rd_T33 l0 x5_1).f2) ((rd_T33 l0 x5_1).f3.f0) ((rd_T33 l0 x5_1).f3.f1) ((rd_T33 l0 x5_1).f4) ((rd_T33 l0 x5_1).f5) ((rd_T33 l0 x5_1).f6.f0) ((rd_T33 l0 x5_1).f6.f1) ((rd_T33 l0 x5_1).f7) ((rd_T33 l0 x5_1).f8) ((rd_T33 l0 x5_1).f9) (by first | (clear bq1_; exact true) | exact false) _ A1003.out).mono ?_); rintro e w2005 ⟨rfl, hb⟩; refine ⟨_, rfl, ?_⟩; have n0_ := Aside0.mk (blk_below (Bh BK161) hb); have n1_ := Aside0.mk (below_step wB hb); clear BK161; clear HB; have BK161 := n0_; have HB := n1_; clear n0_ n1_; (try clear hb); (try clear hb2); (try clear hk); (try clear hi)))
 )
 rotate_left
 )
 rotate_right 3
 iterate 2 (
 focus (
 have n0_ := Aside0.mk (blk_drew BK161.out)
 have n1_ := Aside0.mk (below_drew1 HB.out)
 clear BK161
 clear HB
 have BK161 := n0_
 have HB := n1_
 clear n0_ n1_
 refine start_ (n := 34) (S := fun w' => w'.cell? ⟨gb161, 0, none⟩ = some (.int .i64 ((rd_T33 l0 x5_1).f0)) ∧ w'.cell? ⟨gb161, 1, none⟩ = some (.int .i64 ((rd_T33 l0 x5_1).f1)) ∧ w'.cell? ⟨gb161, 2, none⟩ = some (.int .i64 ((rd_T33 l0 x5_1).f2)) ∧ w'.cell? ⟨gb161, 3, none⟩ = some (.int .i64 ((rd_T33 l0 x5_1).f3.f0)) ∧ w'.cell? ⟨gb161, 4, none⟩ = some (.int .i64 ((rd_T33 l0 x5_1).f3.f1)) ∧ w'.cell? ⟨gb161, 5, none⟩ = some (.int .i64 ((rd_T33 l0 x5_1).f4)) ∧ w'.cell? ⟨gb161, 6, none⟩ = some (.int .i64 ((rd_T33 l0 x5_1).f5)) ∧ w'.cell? ⟨gb161, 7, none⟩ = some (.int .i64 ((rd_T33 l0 x5_1).f6.f0)) ∧ w'.cell? ⟨gb161, 8, none⟩ = some (.int .i64 ((rd_T33 l0 x5_1).f6.f1)) ∧ w'.cell? ⟨gb161, 9, none⟩ = some (.int .i64 ((rd_T33 l0 x5_1).f7)) ∧ w'.cell? ⟨gb161, 10, none⟩ = some (.int .i64 ((rd_T33 l0 x5_1).f8)) ∧ w'.cell? ⟨gb161, 11, none⟩ = some (.int .i64 ((rd_T33 l0 x5_1).f9))) (ds := []) #[false, false, false, false, false, false, false, false, false, false, false, false, false, false, false, false, false, false, false, false, false, false, false, false, false, false, false, false, false, false, false, false, false, false] (by kernel_rfl) rfl rfl ⟨(blk_cell BK161.out 0).trans rfl, (blk_cell BK161.out 1).trans rfl, (blk_cell BK161.out 2).trans rfl, (blk_cell BK161.out 3).trans rfl, (blk_cell BK161.out 4).trans rfl, (blk_cell BK161.out 5).trans rfl, (blk_cell BK161.out 6).trans rfl, (blk_cell BK161.out 7).trans rfl, (blk_cell BK161.out 8).trans rfl, (blk_cell BK161.out 9).trans rfl, (blk_cell BK161.out 10).trans rfl, (blk_cell BK161.out 11).trans rfl⟩ (fun hHeld => ?_); refine with_tabW spec_ShowRules.tab10 spec_ShowRules.bits10 (fun HT_ HW_ => ?_)
 generalize w2005.drew = w2006 at BK161 HB hHeld ⊢
 refine pure_ (i := 0) (N := some 23) (v := ?_) (a' := ?_) #[true, false, false, false, false, false, false, false, false, false, false, false, false, false, false, false, false, false, false, false, false, false, false, false, false, false, false, false, false, false, false, false, false, false] rfl rfl (any_of HT_.out (by kernel_rfl)) (fun _ _ _ h => h) (Or.inl ⟨by rfl, ?_⟩) ?_ ?_
 rotate_left
 {
 intro w'
 go_simp
 with_reducible rfl
 }
 rotate_left
 {
 simp only [Act.put, List.setIfInBounds_toArray, List.set_cons_zero, List.set_cons_succ, i64_w, i32_w]
 rfl
 }
 refine pure_ (i := 1) (N := some 24) (v := ?_) (a' := ?_) #[true, true, false, false, false, false, false, false, false, false, false, false, false, false, false, false, false, false, false, false, false, false, false, false, false, false, false, false, false, false, false, false, false, false] rfl rfl (any_of HT_.out (by kernel_rfl)) (fun _ _ _ h => h) (Or.inl ⟨by rfl, ?_⟩) ?_ ?_
 rotate_left
 {
 intro w'
 go_simp
 with_reducible rfl
 }
 rotate_left
 {
 simp only [Act.put, List.setIfInBounds_toArray, List.set_cons_zero, List.set_cons_succ, i64_w, i32_w]
 rfl
 }
 refine pure_ (i := 6) (N := some 29) (v := ?_) (a' := ?_) #[true, true, false, false, false, false, true, false, false, false, false, false, false, false, false, false, false, false, false, false, false, false, false, false, false, false, false, false, false, false, false, false, false, false] rfl rfl (any_of HT_.out (by kernel_rfl)) (fun _ _ _ h => h) (Or.inl ⟨by rfl, ?_⟩) ?_ ?_
 rotate_left
 {
 intro w'
 go_simp
 with_reducible rfl
 }
 rotate_left
 {
 simp only [Act.put, List.setIfInBounds_toArray, List.set_cons_zero, List.set_cons_succ, i64_w, i32_w]
 rfl
 }
 refine pure_ (i := 11) (N := some 34) (v := ?_) (a' := ?_) #[true, true, false, false, false, false, true, false, false, false, false, true, false, false, false, false, false, false, false, false, false, false, false, false, false, false, false, false, false, false, false, false, false, false] rfl rfl (any_of HT_.out (by kernel_rfl)) (fun _ _ _ h => h) (Or.inl ⟨by rfl, ?_⟩) ?_ ?_
 rotate_left
 {
 intro w'
 go_simp
 with_reducible rfl
 }
 rotate_left
 {
 simp only [Act.put, List.setIfInBounds_toArray, List.set_cons_zero, List.set_cons_succ, i64_w, i32_w]
 rfl
 }
 refine pure_ (i := 16) (N := some 39) (v := ?_) (a' := ?_) #[true, true, false, false, false, false, true, false, false, false, false, true, false, false, false, false, true, false, false, false, false, false, false, false, false, false, false, false, false, false, false, false, false, false] rfl rfl (any_of HT_.out (by kernel_rfl)) (fun _ _ _ h => h) (Or.inl ⟨by rfl, ?_⟩) ?_ ?_
 rotate_left
 {
 intro w'
 go_simp
 with_reducible rfl
 }
 rotate_left
 {
 simp only [Act.put, List.setIfInBounds_toArray, List.set_cons_zero, List.set_cons_succ, i64_w, i32_w]
 rfl
 }
 refine pure_ (i := 18) (N := some 41) (v := ?_) (a' := ?_) #[true, true, false, false, false, false, true, false, false, false, false, true, false, false, false, false, true, false, true, false, false, false, false, false, false, false, false, false, false, false, false, false, false, false] rfl rfl (any_of HT_.out (by kernel_rfl)) (fun _ _ _ h => h) (Or.inl ⟨by rfl, ?_⟩) ?_ ?_
 rotate_left
 {
 intro w'
 go_simp
 with_reducible rfl
 }
 rotate_left
 {
 simp only [Act.put, List.setIfInBounds_toArray, List.set_cons_zero, List.set_cons_succ, i64_w, i32_w]
 rfl
 }
 refine pure_ (i := 20) (N := some 43) (v := ?_) (a' := ?_) #[true, true, false, false, false, false, true, false, false, false, false, true, false, false, false, false, true, false, true, false, true, false, false, false, false, false, false, false, false, false, false, false, false, false] rfl rfl (any_of HT_.out (by kernel_rfl)) (fun _ _ _ h => h) (Or.inl ⟨by rfl, ?_⟩) ?_ ?_
 rotate_left
 {
 intro w'
 go_simp
 with_reducible rfl
 }
 rotate_left
 {
 simp only [Act.put, List.setIfInBounds_toArray, List.set_cons_zero, List.set_cons_succ, i64_w, i32_w]
 rfl
 }
 refine pure_ (i := 25) (N := some 48) (v := ?_) (a' := ?_) #[true, true, false, false, false, false, true, false, false, false, false, true, false, false, false, false, true, false, true, false, true, false, false, false, false, true, false, false, false, false, false, false, false, false] rfl rfl (any_of HT_.out (by kernel_rfl)) (fun _ _ _ h => h) (Or.inl ⟨by rfl, ?_⟩) ?_ ?_
 rotate_left
 {
 intro w'
 go_simp
 with_reducible rfl
 }
 rotate_left
 {
 simp only [Act.put, List.setIfInBounds_toArray, List.set_cons_zero, List.set_cons_succ, i64_w, i32_w]
 rfl
 }
 refine pure_ (i := 27) (N := some 50) (v := ?_) (a' := ?_) #[true, true, false, false, false, false, true, false, false, false, false, true, false, false, false, false, true, false, true, false, true, false, false, false, false, true, false, true, false, false, false, false, false, false] rfl rfl (any_of HT_.out (by kernel_rfl)) (fun _ _ _ h => h) (Or.inl ⟨by rfl, ?_⟩) ?_ ?_
 rotate_left
 {
 intro w'
 go_simp
 with_reducible rfl
 }
 rotate_left
 {
 simp only [Act.put, List.setIfInBounds_toArray, List.set_cons_zero, List.set_cons_succ, i64_w, i32_w]
 rfl
 }
 refine pure_ (i := 29) (N := some 52) (v := ?_) (a' := ?_) #[true, true, false, false, false, false, true, false, false, false, false, true, false, false, false, false, true, false, true, false, true, false, false, false, false, true, false, true, false, true, false, false, false, false] rfl rfl (any_of HT_.out (by kernel_rfl)) (fun _ _ _ h => h) (Or.inl ⟨by rfl, ?_⟩) ?_ ?_
 rotate_left
 {
 intro w'
 go_simp
 with_reducible rfl
 }
 rotate_left
 {
 simp only [Act.put, List.setIfInBounds_toArray, List.set_cons_zero, List.set_cons_succ, i64_w, i32_w]
 rfl
 }
 refine take_ (i := 2) (N := some 25) (v := ?_) (a' := ?_) #[true, true, true, false, false, false, true, false, false, false, false, true, false, false, false, false, true, false, true, false, true, false, false, false, false, true, false, true, false, true, false, false, false, false] rfl rfl (take_ofW HT_.out HW_.out (by kernel_rfl)) (fun _ _ _ h => h) (Or.inl ⟨by rfl, ?_⟩) hHeld ?_ ?_
 rotate_left
 {
 rintro w' ⟨s0, s1, s2, s3, s4, s5, s6, s7, s8, s9, s10, s11⟩
 go_simp
 with_reducible rfl
 }
 rotate_left
 {
 simp only [Act.put, List.setIfInBounds_toArray, List.set_cons_zero, List.set_cons_succ, i64_w, i32_w]
 rfl
 }
 refine take_ (i := 7) (N := some 30) (v := ?_) (a' := ?_) #[true, true, true, false, false, false, true, true, false, false, false, true, false, false, false, false, true, false, true, false, true, false, false, false, false, true, false, true, false, true, false, false, false, false] rfl rfl (take_ofW HT_.out HW_.out (by kernel_rfl)) (fun _ _ _ h => h) (Or.inl ⟨by rfl, ?_⟩) hHeld ?_ ?_
 rotate_left
 {
 rintro w' ⟨s0, s1, s2, s3, s4, s5, s6, s7, s8, s9, s10, s11⟩
 go_simp
 with_reducible rfl
 }
 rotate_left
 {
 simp only [Act.put, List.setIfInBounds_toArray, List.set_cons_zero, List.set_cons_succ, i64_w, i32_w]
 rfl
 }
 refine take_ (i := 12) (N := some 35) (v := ?_) (a' := ?_) #[true, true, true, false, false, false, true, true, false, false, false, true, true, false, false, false, true, false, true, false, true, false, false, false, false, true, false, true, false, true, false, false, false, false] rfl rfl (take_ofW HT_.out HW_.out (by kernel_rfl)) (fun _ _ _ h => h) (Or.inl ⟨by rfl, ?_⟩) hHeld ?_ ?_
 rotate_left
 {
 rintro w' ⟨s0, s1, s2, s3, s4, s5, s6, s7, s8, s9, s10, s11⟩
 go_simp
 with_reducible rfl
 }
 rotate_left
 {
 simp only [Act.put, List.setIfInBounds_toArray, List.set_cons_zero, List.set_cons_succ, i64_w, i32_w]
 rfl
 }
 refine take_ (i := 17) (N := some 40) (v := ?_) (a' := ?_) #[true, true, true, false, false, false, true, true, false, false, false, true, true, false, false, false, true, true, true, false, true, false, false, false, false, true, false, true, false, true, false, false, false, false] rfl rfl (take_ofW HT_.out HW_.out (by kernel_rfl)) (fun _ _ _ h => h) (Or.inl ⟨by rfl, ?_⟩) hHeld ?_ ?_
 rotate_left
 {
 rintro w' ⟨s0, s1, s2, s3, s4, s5, s6, s7, s8, s9, s10, s11⟩
 go_simp
 with_reducible rfl
 }
 rotate_left
 {
 simp only [Act.put, List.setIfInBounds_toArray, List.set_cons_zero, List.set_cons_succ, i64_w, i32_w]
 rfl
 }
 refine take_ (i := 19) (N := some 42) (v := ?_) (a' := ?_) #[true, true, true, false, false, false, true, true, false, false, false, true, true, false, false, false, true, true, true, true, true, false, false, false, false, true, false, true, false, true, false, false, false, false] rfl rfl (take_ofW HT_.out HW_.out (by kernel_rfl)) (fun _ _ _ h => h) (Or.inl ⟨by rfl, ?_⟩) hHeld ?_ ?_
 rotate_left
 {
 rintro w' ⟨s0, s1, s2, s3, s4, s5, s6, s7, s8, s9, s10, s11⟩
 go_simp
 with_reducible rfl
 }
 rotate_left
 {
 simp only [Act.put, List.setIfInBounds_toArray, List.set_cons_zero, List.set_cons_succ, i64_w, i32_w]
 rfl
 }
 refine take_ (i := 21) (N := some 44) (v := ?_) (a' := ?_) #[true, true, true, false, false, false, true, true, false, false, false, true, true, false, false, false, true, true, true, true, true, true, false, false, false, true, false, true, false, true, false, false, false, false] rfl rfl (take_ofW HT_.out HW_.out (by kernel_rfl)) (fun _ _ _ h => h) (Or.inl ⟨by rfl, ?_⟩) hHeld ?_ ?_
 rotate_left
 {
 rintro w' ⟨s0, s1, s2, s3, s4, s5, s6, s7, s8, s9, s10, s11⟩
 go_simp
 with_reducible rfl
 }
 rotate_left
 {
 simp only [Act.put, List.setIfInBounds_toArray, List.set_cons_zero, List.set_cons_succ, i64_w, i32_w]
 rfl
 }
 refine take_ (i := 26) (N := some 49) (v := ?_) (a' := ?_) #[true, true, true, false, false, false, true, true, false, false, false, true, true, false, false, false, true, true, true, true, true, true, false, false, false, true, true, true, false, true, false, false, false, false] rfl rfl (take_ofW HT_.out HW_.out (by kernel_rfl)) (fun _ _ _ h => h) (Or.inl ⟨by rfl, ?_⟩) hHeld ?_ ?_
 rotate_left
 {
 rintro w' ⟨s0, s1, s2, s3, s4, s5, s6, s7, s8, s9, s10, s11⟩
 go_simp
 with_reducible rfl
 }
 rotate_left
 {
 simp only [Act.put, List.setIfInBounds_toArray, List.set_cons_zero, List.set_cons_succ, i64_w, i32_w]
 rfl
 }
 refine take_ (i := 28) (N := some 51) (v := ?_) (a' := ?_) #[true, true, true, false, false, false, true, true, false, false, false, true, true, false, false, false, true, true, true, true, true, true, false, false, false, true, true, true, true, true, false, false, false, false] rfl rfl (take_ofW HT_.out HW_.out (by kernel_rfl)) (fun _ _ _ h => h) (Or.inl ⟨by rfl, ?_⟩) hHeld ?_ ?_
 rotate_left
 {
 rintro w' ⟨s0, s1, s2, s3, s4, s5, s6, s7, s8, s9, s10, s11⟩
 go_simp
 with_reducible rfl
 }
 rotate_left
 {
 simp only [Act.put, List.setIfInBounds_toArray, List.set_cons_zero, List.set_cons_succ, i64_w, i32_w]
 rfl
 }
 refine take_ (i := 30) (N := some 53) (v := ?_) (a' := ?_) #[true, true, true, false, false, false, true, true, false, false, false, true, true, false, false, false, true, true, true, true, true, true, false, false, false, true, true, true, true, true, true, false, false, false] rfl rfl (take_ofW HT_.out HW_.out (by kernel_rfl)) (fun _ _ _ h => h) (Or.inl ⟨by rfl, ?_⟩) hHeld ?_ ?_
 rotate_left
 {
 rintro w' ⟨s0, s1, s2, s3, s4, s5, s6, s7, s8, s9, s10, s11⟩
 go_simp
 with_reducible rfl
 }
 rotate_left
 {
 simp only [Act.put, List.setIfInBounds_toArray, List.set_cons_zero, List.set_cons_succ, i64_w, i32_w]
 rfl
 }
 refine one_ (i := 3) (N := some 26) #[true, true, true, true, false, false, true, true, false, false, false, true, true, false, false, false, true, true, true, true, true, true, false, false, false, true, true, true, true, true, true, false, false, false] rfl rfl (one_of HT_.out (by kernel_rfl)) (by decide) (fun K hK => ?_)
 refine goes_ Tryd.func10 (by kernel_rfl) rfl #[.string (⟨#[45, 32, 112, 97, 115, 115, 32, 100, 114, 111, 112, 32, 114, 101, 106, 101, 99, 116]⟩ : ByteArray), .int .i64 ((rd_T33 l0 x5_1).f0)] (by rfl) rfl rfl wT ?_
 with_reducible refine (spec_l09Word.calls k1 (⟨#[45, 32, 112, 97, 115, 115, 32, 100, 114, 111, 112, 32, 114, 101, 106, 101, 99, 116]⟩ : ByteArray) ((rd_T33 l0 x5_1).f0) t163 _ A1005.out).mono ?_
 rintro e w2007 ⟨rfl, hb⟩
 refine ⟨_, rfl, ?_⟩
 have n0_ := Aside0.mk (blk_below (Bh BK161) hb)
 have n1_ := Aside0.mk (below_step wB hb)
 clear BK161
 clear HB
 have BK161 := n0_
 have HB := n1_
 clear n0_ n1_
 (try clear hb)
 (try clear hb2)
 (try clear hk)
 (try clear hi)
 refine hK.out _ _ ⟨(blk_cell BK161.out 0).trans rfl, (blk_cell BK161.out 1).trans rfl, (blk_cell BK161.out 2).trans rfl, (blk_cell BK161.out 3).trans rfl, (blk_cell BK161.out 4).trans rfl, (blk_cell BK161.out 5).trans rfl, (blk_cell BK161.out 6).trans rfl, (blk_cell BK161.out 7).trans rfl, (blk_cell BK161.out 8).trans rfl, (blk_cell BK161.out 9).trans rfl, (blk_cell BK161.out 10).trans rfl, (blk_cell BK161.out 11).trans rfl⟩ (fun hHeld => ?_)
 clear hK K
 refine norm_ (a' := ?_) ?_ ?_
 rotate_left
 {
 show Act.put _ (some 26) _ = _
 simp only [Act.put, List.setIfInBounds_toArray, List.set_cons_zero, List.set_cons_succ, i64_w, i32_w]
 rfl
 }
 refine pure_ (i := 4) (N := some 27) (v := ?_) (a' := ?_) #[true, true, true, true, true, false, true, true, false, false, false, true, true, false, false, false, true, true, true, true, true, true, false, false, false, true, true, true, true, true, true, false, false, false] rfl rfl (any_of HT_.out (by kernel_rfl)) (fun _ _ _ h => h) (Or.inl ⟨by rfl, ?_⟩) ?_ ?_
 rotate_left
 {
 intro w'
 go_simp
 with_reducible rfl
 }
 rotate_left
 {
 simp only [Act.put, List.setIfInBounds_toArray, List.set_cons_zero, List.set_cons_succ, i64_w, i32_w]
 rfl
 }
 refine pure_ (i := 5) (N := some 28) (v := ?_) (a' := ?_) #[true, true, true, true, true, true, true, true, false, false, false, true, true, false, false, false, true, true, true, true, true, true, false, false, false, true, true, true, true, true, true, false, false, false] rfl rfl (any_of HT_.out (by kernel_rfl)) (fun _ _ _ h => h) (Or.inl ⟨by rfl, ?_⟩) ?_ ?_
 rotate_left
 {
 intro w'
 go_simp
 with_reducible rfl
 }
 rotate_left
 {
 simp only [Act.put, List.setIfInBounds_toArray, List.set_cons_zero, List.set_cons_succ, i64_w, i32_w]
 rfl
 }
 refine one_ (i := 8) (N := some 31) #[true, true, true, true, true, true, true, true, true, false, false, true, true, false, false, false, true, true, true, true, true, true, false, false, false, true, true, true, true, true, true, false, false, false] rfl rfl (one_of HT_.out (by kernel_rfl)) (by decide) (fun K hK => ?_)
 refine goes_ Tryd.func10 (by kernel_rfl) rfl #[.string (⟨#[45, 32, 105, 110, 32, 111, 117, 116, 32, 98, 111, 116, 104]⟩ : ByteArray), .int .i64 ((rd_T33 l0 x5_1).f1)] (by rfl) rfl rfl wT ?_
 with_reducible refine (spec_l09Word.calls k1 (⟨#[45, 32, 105, 110, 32, 111, 117, 116, 32, 98, 111, 116, 104]⟩ : ByteArray) ((rd_T33 l0 x5_1).f1) t164 _ A1008.out).mono ?_
 rintro e w2008 ⟨rfl, hb⟩
 refine ⟨_, rfl, ?_⟩
 have n0_ := Aside0.mk (blk_below (Bh BK161) hb)
 have n1_ := Aside0.mk (below_step wB hb)
 clear BK161
 clear HB
 have BK161 := n0_
 have HB := n1_
 clear n0_ n1_
 (try clear hb)
 (try clear hb2)
 (try clear hk)
 (try clear hi)
 refine hK.out _ _ ⟨(blk_cell BK161.out 0).trans rfl, (blk_cell BK161.out 1).trans rfl, (blk_cell BK161.out 2).trans rfl, (blk_cell BK161.out 3).trans rfl, (blk_cell BK161.out 4).trans rfl, (blk_cell BK161.out 5).trans rfl, (blk_cell BK161.out 6).trans rfl, (blk_cell BK161.out 7).trans rfl, (blk_cell BK161.out 8).trans rfl, (blk_cell BK161.out 9).trans rfl, (blk_cell BK161.out 10).trans rfl, (blk_cell BK161.out 11).trans rfl⟩ (fun hHeld => ?_)
 clear hK K
 refine norm_ (a' := ?_) ?_ ?_
 rotate_left
 {
 show Act.put _ (some 31) _ = _
 simp only [Act.put, List.setIfInBounds_toArray, List.set_cons_zero, List.set_cons_succ, i64_w, i32_w]
 rfl
 }
 refine pure_ (i := 9) (N := some 32) (v := ?_) (a' := ?_) #[true, true, true, true, true, true, true, true, true, true, false, true, true, false, false, false, true, true, true, true, true, true, false, false, false, true, true, true, true, true, true, false, false, false] rfl rfl (any_of HT_.out (by kernel_rfl)) (fun _ _ _ h => h) (Or.inl ⟨by rfl, ?_⟩) ?_ ?_
 rotate_left
 {
 intro w'
 go_simp
 with_reducible rfl
 }
 rotate_left
 {
 simp only [Act.put, List.setIfInBounds_toArray, List.set_cons_zero, List.set_cons_succ, i64_w, i32_w]
 rfl
 }
 refine pure_ (i := 10) (N := some 33) (v := ?_) (a' := ?_) #[true, true, true, true, true, true, true, true, true, true, true, true, true, false, false, false, true, true, true, true, true, true, false, false, false, true, true, true, true, true, true, false, false, false] rfl rfl (any_of HT_.out (by kernel_rfl)) (fun _ _ _ h => h) (Or.inl ⟨by rfl, ?_⟩) ?_ ?_
 rotate_left
 {
 intro w'
 go_simp
 with_reducible rfl
 }
 rotate_left
 {
 simp only [Act.put, List.setIfInBounds_toArray, List.set_cons_zero, List.set_cons_succ, i64_w, i32_w]
 rfl
 }
 refine one_ (i := 13) (N := some 36) #[true, true, true, true, true, true, true, true, true, true, true, true, true, true, false, false, true, true, true, true, true, true, false, false, false, true, true, true, true, true, true, false, false, false] rfl rfl (one_of HT_.out (by kernel_rfl)) (by decide) (fun K hK => ?_)
 refine goes_ Tryd.func11 (by kernel_rfl) rfl #[.int .i64 ((rd_T33 l0 x5_1).f2)] (by rfl) rfl rfl wT ?_
 with_reducible refine (spec_l09ProtoName.calls ((rd_T33 l0 x5_1).f2) t165 _ A1011.out).mono ?_
 rintro e w' ⟨rfl, ⟨nd, rfl⟩⟩
 refine ⟨_, rfl, ?_⟩
 refine hK.out _ _ ⟨(blk_cell BK161.out 0).trans rfl, (blk_cell BK161.out 1).trans rfl, (blk_cell BK161.out 2).trans rfl, (blk_cell BK161.out 3).trans rfl, (blk_cell BK161.out 4).trans rfl, (blk_cell BK161.out 5).trans rfl, (blk_cell BK161.out 6).trans rfl, (blk_cell BK161.out 7).trans rfl, (blk_cell BK161.out 8).trans rfl, (blk_cell BK161.out 9).trans rfl, (blk_cell BK161.out 10).trans rfl, (blk_cell BK161.out 11).trans rfl⟩ (fun hHeld => ?_)
 clear hK K
 refine norm_ (a' := ?_) ?_ ?_
 rotate_left
 {
 show Act.put _ (some 36) _ = _
 simp only [Act.put, List.setIfInBounds_toArray, List.set_cons_zero, List.set_cons_succ, i64_w, i32_w]
 rfl
 }
 refine pure_ (i := 14) (N := some 37) (v := ?_) (a' := ?_) #[true, true, true, true, true, true, true, true, true, true, true, true, true, true, true, false, true, true, true, true, true, true, false, false, false, true, true, true, true, true, true, false, false, false] rfl rfl (any_of HT_.out (by kernel_rfl)) (fun _ _ _ h => h) (Or.inl ⟨by rfl, ?_⟩) ?_ ?_
 rotate_left
 {
 intro w'
 go_simp
 with_reducible rfl
 }
 rotate_left
 {
 simp only [Act.put, List.setIfInBounds_toArray, List.set_cons_zero, List.set_cons_succ, i64_w, i32_w]
 rfl
 }
 refine pure_ (i := 15) (N := some 38) (v := ?_) (a' := ?_) #[true, true, true, true, true, true, true, true, true, true, true, true, true, true, true, true, true, true, true, true, true, true, false, false, false, true, true, true, true, true, true, false, false, false] rfl rfl (any_of HT_.out (by kernel_rfl)) (fun _ _ _ h => h) (Or.inl ⟨by rfl, ?_⟩) ?_ ?_
 rotate_left
 {
 intro w'
 go_simp
 with_reducible rfl
 }
 rotate_left
 {
 simp only [Act.put, List.setIfInBounds_toArray, List.set_cons_zero, List.set_cons_succ, i64_w, i32_w]
 rfl
 }
 refine one_ (i := 22) (N := some 45) #[true, true, true, true, true, true, true, true, true, true, true, true, true, true, true, true, true, true, true, true, true, true, true, false, false, true, true, true, true, true, true, false, false, false] rfl rfl (one_of HT_.out (by kernel_rfl)) (by decide) (fun K hK => ?_)
 refine goes_ Tryd.func12 (by kernel_rfl) rfl #[.agg #[.int .i64 ((rd_T33 l0 x5_1).f3.f0), .int .i64 ((rd_T33 l0 x5_1).f3.f1)], .int .i64 ((rd_T33 l0 x5_1).f4), .int .i64 ((rd_T33 l0 x5_1).f5)] (by rfl) rfl rfl wT ?_
 with_reducible refine (spec_l09ShowSide.calls k1 ((rd_T33 l0 x5_1).f3.f0) ((rd_T33 l0 x5_1).f3.f1) ((rd_T33 l0 x5_1).f4) ((rd_T33 l0 x5_1).f5) t166 _ A1014.out).mono ?_
 rintro e w2009 ⟨rfl, hb⟩
 refine ⟨_, rfl, ?_⟩
 have n0_ := Aside0.mk (blk_below (Bh BK161) hb)
 have n1_ := Aside0.mk (below_step wB hb)
 clear BK161
 clear HB
 have BK161 := n0_
 have HB := n1_
 clear n0_ n1_
 (try clear hb)
 (try clear hb2)
 (try clear hk)
 (try clear hi)
 refine hK.out _ _ ⟨(blk_cell BK161.out 0).trans rfl, (blk_cell BK161.out 1).trans rfl, (blk_cell BK161.out 2).trans rfl, (blk_cell BK161.out 3).trans rfl, (blk_cell BK161.out 4).trans rfl, (blk_cell BK161.out 5).trans rfl, (blk_cell BK161.out 6).trans rfl, (blk_cell BK161.out 7).trans rfl, (blk_cell BK161.out 8).trans rfl, (blk_cell BK161.out 9).trans rfl, (blk_cell BK161.out 10).trans rfl, (blk_cell BK161.out 11).trans rfl⟩ (fun hHeld => ?_)
 clear hK K
 refine norm_ (a' := ?_) ?_ ?_
 rotate_left
 {
 show Act.put _ (some 45) _ = _
 simp only [Act.put, List.setIfInBounds_toArray, List.set_cons_zero, List.set_cons_succ, i64_w, i32_w]
 rfl
 }
 refine pure_ (i := 23) (N := some 46) (v := ?_) (a' := ?_) #[true, true, true, true, true, true, true, true, true, true, true, true, true, true, true, true, true, true, true, true, true, true, true, true, false, true, true, true, true, true, true, false, false, false] rfl rfl (any_of HT_.out (by kernel_rfl)) (fun _ _ _ h => h) (Or.inl ⟨by rfl, ?_⟩) ?_ ?_
 rotate_left
 {
 intro w'
 go_simp
 with_reducible rfl
 }
 rotate_left
 {
 simp only [Act.put, List.setIfInBounds_toArray, List.set_cons_zero, List.set_cons_succ, i64_w, i32_w]
 rfl
 }
 refine pure_ (i := 24) (N := some 47) (v := ?_) (a' := ?_) #[true, true, true, true, true, true, true, true, true, true, true, true, true, true, true, true, true, true, true, true, true, true, true, true, true, true, true, true, true, true, true, false, false, false] rfl rfl (any_of HT_.out (by kernel_rfl)) (fun _ _ _ h => h) (Or.inl ⟨by rfl, ?_⟩) ?_ ?_
 rotate_left
 {
 intro w'
 go_simp
 with_reducible rfl
 }
 rotate_left
 {
 simp only [Act.put, List.setIfInBounds_toArray, List.set_cons_zero, List.set_cons_succ, i64_w, i32_w]
 rfl
 }
 refine one_ (i := 31) (N := some 54) #[true, true, true, true, true, true, true, true, true, true, true, true, true, true, true, true, true, true, true, true, true, true, true, true, true, true, true, true, true, true, true, true, false, false] rfl rfl (one_of HT_.out (by kernel_rfl)) (by decide) (fun K hK => ?_)
 refine goes_ Tryd.func12 (by kernel_rfl) rfl #[.agg #[.int .i64 ((rd_T33 l0 x5_1).f6.f0), .int .i64 ((rd_T33 l0 x5_1).f6.f1)], .int .i64 ((rd_T33 l0 x5_1).f7), .int .i64 ((rd_T33 l0 x5_1).f8)] (by rfl) rfl rfl wT ?_
 with_reducible refine (spec_l09ShowSide.calls k1 ((rd_T33 l0 x5_1).f6.f0) ((rd_T33 l0 x5_1).f6.f1) ((rd_T33 l0 x5_1).f7) ((rd_T33 l0 x5_1).f8) t167 _ A1017.out).mono ?_
 rintro e w2010 ⟨rfl, hb⟩
 refine ⟨_, rfl, ?_⟩
 have n0_ := Aside0.mk (blk_below (Bh BK161) hb)
 have n1_ := Aside0.mk (below_step wB hb)
 clear BK161
 clear HB
 have BK161 := n0_
 have HB := n1_
 clear n0_ n1_
 (try clear hb)
 (try clear hb2)
 (try clear hk)
 (try clear hi)
 refine hK.out _ _ ⟨(blk_cell BK161.out 0).trans rfl, (blk_cell BK161.out 1).trans rfl, (blk_cell BK161.out 2).trans rfl, (blk_cell BK161.out 3).trans rfl, (blk_cell BK161.out 4).trans rfl, (blk_cell BK161.out 5).trans rfl, (blk_cell BK161.out 6).trans rfl, (blk_cell BK161.out 7).trans rfl, (blk_cell BK161.out 8).trans rfl, (blk_cell BK161.out 9).trans rfl, (blk_cell BK161.out 10).trans rfl, (blk_cell BK161.out 11).trans rfl⟩ (fun hHeld => ?_)
 clear hK K
 refine norm_ (a' := ?_) ?_ ?_
 rotate_left
 {
 show Act.put _ (some 54) _ = _
 simp only [Act.put, List.setIfInBounds_toArray, List.set_cons_zero, List.set_cons_succ, i64_w, i32_w]
 rfl
 }
 refine pure_ (i := 32) (N := some 55) (v := ?_) (a' := ?_) #[true, true, true, true, true, true, true, true, true, true, true, true, true, true, true, true, true, true, true, true, true, true, true, true, true, true, true, true, true, true, true, true, true, false] rfl rfl (any_of HT_.out (by kernel_rfl)) (fun _ _ _ h => h) (Or.inl ⟨by rfl, ?_⟩) ?_ ?_
 rotate_left
 {
 intro w'
 go_simp
 with_reducible rfl
 }
 rotate_left
 {
 simp only [Act.put, List.setIfInBounds_toArray, List.set_cons_zero, List.set_cons_succ, i64_w, i32_w]
 rfl
 }
 refine pure_ (i := 33) (N := some 4) (v := ?_) (a' := ?_) #[true, true, true, true, true, true, true, true, true, true, true, true, true, true, true, true, true, true, true, true, true, true, true, true, true, true, true, true, true, true, true, true, true, true] rfl rfl (any_of HT_.out (by kernel_rfl)) (fun _ _ _ h => h) (Or.inl ⟨by rfl, ?_⟩) ?_ ?_
 rotate_left
 {
 intro w'
 go_simp
 with_reducible rfl
 }
 rotate_left
 {
 simp only [Act.put, List.setIfInBounds_toArray, List.set_cons_zero, List.set_cons_succ, i64_w, i32_w]
 rfl
 }
 refine done_ (done_of HT_.out (by kernel_rfl)) ?_
 obtain ⟨⟨hcz2011_0, hcz2011_1, hcz2011_2, hcz2011_3, hcz2011_4, hcz2011_5, hcz2011_6, hcz2011_7, hcz2011_8, hcz2011_9, hcz2011_10, hcz2011_11⟩, hfz2011_0, hfz2011_1, hfz2011_2, hfz2011_3, hfz2011_4, hfz2011_5, hfz2011_6, hfz2011_7, hfz2011_8, hfz2011_9, hfz2011_10, hfz2011_11⟩ := cells12 BK161.out
 )
 rotate_left
 )
 rotate_right 2
 {
 try go_wp2
 go_roundg k1
 case measure => have := HK1.out; omega
 case rel => exact ⟨((((((((((x4_1 ++ t163) ++ (⟨#[32]⟩ : ByteArray)) ++ t164) ++ (⟨#[32]⟩ : ByteArray)) ++ t165) ++ (⟨#[32, 102, 114, 111, 109, 32]⟩ : ByteArray)) ++ t166) ++ (⟨#[32, 116, 111, 32]⟩ : ByteArray)) ++ t167) ++ (⟨#[10]⟩ : ByteArray)), (wrap64 (x5_1 + 1)), (by first | rfl | (simp; done) | (simp [*]; done)), (by first | rfl | (simp; done) | (simp [*]; done)), H', ⟨by have := HK1.out; omega⟩, ⟨wB⟩⟩
 }
 {
 try go_wp2_with (first | ((with_reducible refine gate_callee (f := 10) rfl ?_); refine goesL_ (some 63) rfl rfl Tryd.func10 (by kernel_rfl) rfl #[.string (⟨#[97, 110, 121, 32, 110, 101, 119, 32, 107, 110, 111, 119, 110, 32, 114, 101, 108, 97, 116, 101, 100, 32, 115, 116, 114, 97, 121]⟩ : ByteArray), .int .i64 ((rd_T33 l0 x5_1).f9)] rfl wT ?_; (with_reducible refine (spec_l09Word.calls k1 (⟨#[97, 110, 121, 32, 110, 101, 119, 32, 107, 110, 111, 119, 110, 32, 114, 101, 108, 97, 116, 101, 100, 32, 115, 116, 114, 97, 121]⟩ : ByteArray) ((rd_T33 l0 x5_1).f9) t168 _ A1022.out).mono ?_); rintro e w2012 ⟨rfl, hb⟩; refine ⟨_, rfl, ?_⟩; have n0_ := Aside0.mk (blk_below (Bh BK161) hb); have n1_ := Aside0.mk (below_step wB hb); clear BK161; clear HB; have BK161 := n0_; have HB := n1_; clear n0_ n1_; (try clear hb); (try clear hb2); (try clear hk); (try clear hi)))
 go_roundg k1
 case measure => have := HK1.out; omega
 case rel => exact ⟨((((((((((((x4_1 ++ t163) ++ (⟨#[32]⟩ : ByteArray)) ++ t164) ++ (⟨#[32]⟩ : ByteArray)) ++ t165) ++ (⟨#[32, 102, 114, 111, 109, 32]⟩ : ByteArray)) ++ t166) ++ (⟨#[32, 116, 111, 32]⟩ : ByteArray)) ++ t167) ++ (⟨#[32]⟩ : ByteArray)) ++ t168) ++ (⟨#[10]⟩ : ByteArray)), (wrap64 (x5_1 + 1)), (by first | rfl | (simp; done) | (simp [*]; done)), (by first | rfl | (simp; done) | (simp [*]; done)), H', ⟨by have := HK1.out; omega⟩, ⟨wB⟩⟩
 }
 {
 go_ret2
 exact ⟨by first | rfl | (simp [errW_none, errW_some] <;> rfl) | (simp [*, errW_none, errW_some] <;> rfl), wB⟩
 }
 {
 go_wp2
 go_ret2
 exact ⟨by first | rfl | (simp [errW_none, errW_some] <;> rfl) | (simp [*, errW_none, errW_some] <;> rfl), wB⟩
 }
 }
 )
 }

/-! ### laws_toPrefix: function 24 -/
def laws_toPrefix.f (a0_0 : Int) (a0_1 : Int) : Option (Int × Int) := some (a0_0, a0_1)
set_option maxHeartbeats 60000000 in
set_option maxRecDepth 100000 in
theorem laws_toPrefix.calls (a0_0 : Int) (a0_1 : Int) (r1 : Int) (r2 : Int) (w : World) (h : laws_toPrefix.f a0_0 a0_1 = some (r1, r2)) :
    Calls Tryd.prog 24 #[.agg #[.int .i64 a0_0, .int .i64 a0_1]] w fun e w' => e = .returned (.agg #[.int .i64 r1, .int .i64 r2]) ∧ Below w.heap.size w w' := by
  have hu39 := Tryd.underlying39
  have hu31 := Tryd.underlying31
  have HB := Aside0.mk (Below.refl w.heap.size w)
  have H : (some (a0_0, a0_1)) = some (r1, r2) := h
  clear h
  simp only [Option.some.injEq, Prod.mk.injEq] at H
  obtain ⟨rfl, rfl⟩ := H
  go_enter Tryd.func24, Tryd.ntmps24
  go_wp2_with (first | ((with_reducible refine gate_dst (N := 1) rfl ?_); refine box_event ?hg (N := 1) ?hd (cs := #[.int .i64 a0_0, .int .i64 a0_1]) (t := 39) ?hr ?_; (case hd => rfl); (case hg => rfl); (case hr => first | (go_simp; done) | (go_simp; rfl)); intro gb169 hg w1001 hbox hb; have n0_ := Aside0.mk (below_step wB hb); have n1_ := Aside0.mk (hbox); have n2_ := Aside0.mk ((by rw [hg]; exact (below_size wB) : w.heap.size ≤ gb169)); have n3_ := Aside0.mk ((by rw [hg]; exact (below_size wB) : w.heap.size ≤ gb169)); clear HB; have HB := n0_; have BK169 := n1_; have GW169 := n2_; have GE169 := n3_; clear n0_ n1_ n2_ n3_; clear hb hbox hg) | ((with_reducible refine gate_dst (N := 2) rfl ?_); refine box_event ?hg (N := 2) ?hd (cs := #[.int .i64 0, .int .i64 0]) (t := 31) ?hr ?_; (case hd => rfl); (case hg => rfl); (case hr => first | (go_simp; done) | (go_simp; rfl)); intro gb170 hg w1002 hbox hb; have n0_ := Aside0.mk (blk_below (Bh BK169) hb); have n1_ := Aside0.mk (below_step wB hb); have n2_ := Aside0.mk (hbox); have n3_ := Aside0.mk ((by rw [hg]; exact (below_size wB) : w.heap.size ≤ gb170)); have n4_ := Aside0.mk ((by rw [hg]; exact (below_size wB) : w.heap.size ≤ gb170)); have n5_ := Aside0.mk ((by rw [hg]; exact Nat.ne_of_lt (blk_lt (Bh BK169)) : gb169 ≠ gb170)); have n6_ := Aside0.mk ((by rw [hg]; exact Nat.ne_of_gt (blk_lt (Bh BK169)) : gb170 ≠ gb169)); clear BK169; clear HB; have BK169 := n0_; have HB := n1_; have BK170 := n2_; have GW170 := n3_; have GE170 := n4_; have NB169_170 := n5_; have NB170_169 := n6_; clear n0_ n1_ n2_ n3_ n4_ n5_ n6_; clear hb hbox hg) | ((with_reducible refine gate_dst (N := 3) rfl ?_); refine box_event ?hg (N := 3) ?hd (cs := #[.int .i64 0, .int .i64 0]) (t := 31) ?hr ?_; (case hd => rfl); (case hg => rfl); (case hr => first | (go_simp; done) | (go_simp; rfl)); intro gb171 hg w1003 hbox hb; have n0_ := Aside0.mk (blk_below (Bh BK169) hb); have n1_ := Aside0.mk (blk_below (Bh BK170) hb); have n2_ := Aside0.mk (below_step wB hb); have n3_ := Aside0.mk (hbox); have n4_ := Aside0.mk ((by rw [hg]; exact (below_size wB) : w.heap.size ≤ gb171)); have n5_ := Aside0.mk ((by rw [hg]; exact (below_size wB) : w.heap.size ≤ gb171)); have n6_ := Aside0.mk ((by rw [hg]; exact Nat.ne_of_lt (blk_lt (Bh BK169)) : gb169 ≠ gb171)); have n7_ := Aside0.mk ((by rw [hg]; exact Nat.ne_of_gt (blk_lt (Bh BK169)) : gb171 ≠ gb169)); have n8_ := Aside0.mk ((by rw [hg]; exact Nat.ne_of_lt (blk_lt (Bh BK170)) : gb170 ≠ gb171)); have n9_ := Aside0.mk ((by rw [hg]; exact Nat.ne_of_gt (blk_lt (Bh BK170)) : gb171 ≠ gb170)); clear BK169; clear BK170; clear HB; have BK169 := n0_; have BK170 := n1_; have HB := n2_; have BK171 := n3_; have GW171 := n4_; have GE171 := n5_; have NB169_171 := n6_; have NB171_169 := n7_; have NB170_171 := n8_; have NB171_170 := n9_; clear n0_ n1_ n2_ n3_ n4_ n5_ n6_ n7_ n8_ n9_; clear hb hbox hg; have hnb1004 := NB169_170.out; have hnc1004 := NB170_169.out; have hnb1005 := NB169_171.out; have hnc1005 := NB171_169.out; obtain ⟨⟨hcz1006_0, hcz1006_1⟩, hfz1006_0, hfz1006_1⟩ := cells2 BK169.out; have hnb1007 := NB171_170.out; have hnc1007 := NB170_171.out; obtain ⟨⟨hcz1008_0, hcz1008_1⟩, hfz1008_0, hfz1008_1⟩ := cells2 BK171.out) | ((with_reducible refine gate_store (t := 2) (p := 9) rfl ?_); refine store_event (t := 2) (p := 9) (v := ?_) (w1 := ((w1003.setCell ⟨gb171, 0, none⟩ (.int .i64 a0_0)).setCell ⟨gb171, 1, none⟩ (.int .i64 a0_1))) ?hg ?ho ?hn ?hr ?_; (case ho => rfl); (case hg => rfl); (case hn => rfl); (case hr => first | (go_simp; done) | (go_simp; rfl)); intro w1009 hw; have n0_ : Aside0 (w1009.heap[gb169]? = some (.cells #[.int .i64 a0_0, .int .i64 a0_1] 39 (0, 0))) := ⟨(by rw [hw]; exact (by (with_reducible repeat (first | refine blk_drewN ?_ _ | refine blk_drew ?_ | refine blk_alloc ?_ _)); refine blk_far ?_ NB169_171.out _; (with_reducible repeat (first | refine blk_drewN ?_ _ | refine blk_drew ?_ | refine blk_alloc ?_ _)); refine blk_far ?_ NB169_171.out _; (with_reducible repeat (first | refine blk_drewN ?_ _ | refine blk_drew ?_ | refine blk_alloc ?_ _)); exact BK169.out))⟩; have n1_ : Aside0 (w1009.heap[gb170]? = some (.cells #[.int .i64 0, .int .i64 0] 31 (0, 0))) := ⟨(by rw [hw]; exact (by (with_reducible repeat (first | refine blk_drewN ?_ _ | refine blk_drew ?_ | refine blk_alloc ?_ _)); refine blk_far ?_ NB170_171.out _; (with_reducible repeat (first | refine blk_drewN ?_ _ | refine blk_drew ?_ | refine blk_alloc ?_ _)); refine blk_far ?_ NB170_171.out _; (with_reducible repeat (first | refine blk_drewN ?_ _ | refine blk_drew ?_ | refine blk_alloc ?_ _)); exact BK170.out))⟩; have n2_ : Aside0 (w1009.heap[gb171]? = some (.cells #[.int .i64 a0_0, .int .i64 a0_1] 31 (0, 0))) := ⟨(by rw [hw]; exact (by (with_reducible repeat (first | refine blk_drewN ?_ _ | refine blk_drew ?_ | refine blk_alloc ?_ _)); refine blk_put (cs := #[.int .i64 a0_0, .int .i64 0]) ?_ 1 _ rfl; (with_reducible repeat (first | refine blk_drewN ?_ _ | refine blk_drew ?_ | refine blk_alloc ?_ _)); refine blk_put (cs := #[.int .i64 0, .int .i64 0]) ?_ 0 _ rfl; (with_reducible repeat (first | refine blk_drewN ?_ _ | refine blk_drew ?_ | refine blk_alloc ?_ _)); exact BK171.out))⟩; have n3_ : Aside0 (Below w.heap.size w w1009) := ⟨(by rw [hw]; exact wB)⟩; clear hw; clear BK169; clear BK170; clear BK171; clear HB; have BK169 := n0_; have BK170 := n1_; have BK171 := n2_; have HB := n3_; clear n0_ n1_ n2_ n3_; obtain ⟨⟨hcz1010_0, hcz1010_1⟩, hfz1010_0, hfz1010_1⟩ := cells2 BK171.out; obtain ⟨⟨hcz1011_0, hcz1011_1⟩, hfz1011_0, hfz1011_1⟩ := cells2 BK170.out) | ((with_reducible refine gate_store (t := 31) (p := 2) rfl ?_); refine store_event (t := 31) (p := 2) (v := ?_) (w1 := ((w1009.setCell ⟨gb170, 0, none⟩ (.int .i64 a0_0)).setCell ⟨gb170, 1, none⟩ (.int .i64 a0_1))) ?hg ?ho ?hn ?hr ?_; (case ho => rfl); (case hg => rfl); (case hn => rfl); (case hr => first | (go_simp; done) | (go_simp; rfl)); intro w1012 hw; have n0_ : Aside0 (w1012.heap[gb169]? = some (.cells #[.int .i64 a0_0, .int .i64 a0_1] 39 (0, 0))) := ⟨(by rw [hw]; exact (by (with_reducible repeat (first | refine blk_drewN ?_ _ | refine blk_drew ?_ | refine blk_alloc ?_ _)); refine blk_far ?_ NB169_170.out _; (with_reducible repeat (first | refine blk_drewN ?_ _ | refine blk_drew ?_ | refine blk_alloc ?_ _)); refine blk_far ?_ NB169_170.out _; (with_reducible repeat (first | refine blk_drewN ?_ _ | refine blk_drew ?_ | refine blk_alloc ?_ _)); exact BK169.out))⟩; have n1_ : Aside0 (w1012.heap[gb170]? = some (.cells #[.int .i64 a0_0, .int .i64 a0_1] 31 (0, 0))) := ⟨(by rw [hw]; exact (by (with_reducible repeat (first | refine blk_drewN ?_ _ | refine blk_drew ?_ | refine blk_alloc ?_ _)); refine blk_put (cs := #[.int .i64 a0_0, .int .i64 0]) ?_ 1 _ rfl; (with_reducible repeat (first | refine blk_drewN ?_ _ | refine blk_drew ?_ | refine blk_alloc ?_ _)); refine blk_put (cs := #[.int .i64 0, .int .i64 0]) ?_ 0 _ rfl; (with_reducible repeat (first | refine blk_drewN ?_ _ | refine blk_drew ?_ | refine blk_alloc ?_ _)); exact BK170.out))⟩; have n2_ : Aside0 (w1012.heap[gb171]? = some (.cells #[.int .i64 a0_0, .int .i64 a0_1] 31 (0, 0))) := ⟨(by rw [hw]; exact (by (with_reducible repeat (first | refine blk_drewN ?_ _ | refine blk_drew ?_ | refine blk_alloc ?_ _)); refine blk_far ?_ NB171_170.out _; (with_reducible repeat (first | refine blk_drewN ?_ _ | refine blk_drew ?_ | refine blk_alloc ?_ _)); refine blk_far ?_ NB171_170.out _; (with_reducible repeat (first | refine blk_drewN ?_ _ | refine blk_drew ?_ | refine blk_alloc ?_ _)); exact BK171.out))⟩; have n3_ : Aside0 (Below w.heap.size w w1012) := ⟨(by rw [hw]; exact wB)⟩; clear hw; clear BK169; clear BK170; clear BK171; clear HB; have BK169 := n0_; have BK170 := n1_; have BK171 := n2_; have HB := n3_; clear n0_ n1_ n2_ n3_))
  refine bodyPost_ret (results_cell_row rfl _ _ gb170 31 #[.int .i64 a0_0, .int .i64 a0_1] (0, 0) _ rfl (Bh BK170) Tryd.underlying31 rfl (by kernel_rfl)) rfl ?_
  exact ⟨by first | rfl | (simp [errW_none, errW_some] <;> rfl) | (simp [*, errW_none, errW_some] <;> rfl), wB⟩

/-! ### laws_toRule: function 13 -/
def laws_toRule.f (a0_0 : Int) (a0_1 : Int) (a0_2 : Int) (a0_3 : Int) (a0_4 : Int) (a0_5 : Int) (a0_6 : Int) (a0_7 : Int) (a0_8 : Int) (a0_9 : Int) (a0_10 : Int) (a0_11 : Int) : Option (Int × Int × Int × Int × Int × Int × Int × Int × Int × Int × Int × Int) := (laws_toPrefix.f a0_3 a0_4).bind fun bt175 => ((laws_toPrefix.f a0_7 a0_8).bind fun bt177 => (some (a0_0, a0_1, a0_2, bt175.1, bt175.2, a0_5, a0_6, bt177.1, bt177.2, a0_9, a0_10, a0_11)))
set_option maxHeartbeats 60000000 in
set_option maxRecDepth 100000 in
theorem laws_toRule.calls (a0_0 : Int) (a0_1 : Int) (a0_2 : Int) (a0_3 : Int) (a0_4 : Int) (a0_5 : Int) (a0_6 : Int) (a0_7 : Int) (a0_8 : Int) (a0_9 : Int) (a0_10 : Int) (a0_11 : Int) (r1 : Int) (r2 : Int) (r3 : Int) (r4 : Int) (r5 : Int) (r6 : Int) (r7 : Int) (r8 : Int) (r9 : Int) (r10 : Int) (r11 : Int) (r12 : Int) (w : World) (h : laws_toRule.f a0_0 a0_1 a0_2 a0_3 a0_4 a0_5 a0_6 a0_7 a0_8 a0_9 a0_10 a0_11 = some (r1, r2, r3, r4, r5, r6, r7, r8, r9, r10, r11, r12)) :
 Calls Tryd.prog 13 #[.agg #[.int .i64 a0_0, .int .i64 a0_1, .int .i64 a0_2, .int .i64 a0_3, .int .i64 a0_4, .int .i64 a0_5, .int .i64 a0_6, .int .i64 a0_7, .int .i64 a0_8, .int .i64 a0_9, .int .i64 a0_10, .int .i64 a0_11]] w fun e w' => e = .returned (.agg #[.int .i64 r1, .int .i64 r2, .int .i64 r3, .int .i64 r4, .int .i64 r5, .int .i64 r6, .int .i64 r7, .int .i64 r8, .int .i64 r9, .int .i64 r10, .int .i64 r11, .int .i64 r12]) ∧ Below w.heap.size w w' := by
 have hu41 := Tryd.underlying41
 have hu33 := Tryd.underlying33
 have hu39 := Tryd.underlying39
 have hu31 := Tryd.underlying31
 have HB := Aside0.mk (Below.refl w.heap.size w)
 have H : ((laws_toPrefix.f a0_3 a0_4).bind fun bt175 => ((laws_toPrefix.f a0_7 a0_8).bind fun bt177 => (some (a0_0, a0_1, a0_2, bt175.1, bt175.2, a0_5, a0_6, bt177.1, bt177.2, a0_9, a0_10, a0_11)))) = some (r1, r2, r3, r4, r5, r6, r7, r8, r9, r10, r11, r12) := h
 clear h
 replace H := Option.bind_eq_some_iff.mp H
 obtain ⟨⟨t175, t176⟩, A20, H⟩ := H
 replace H : ((laws_toPrefix.f a0_7 a0_8).bind fun bt177 => (some (a0_0, a0_1, a0_2, t175, t176, a0_5, a0_6, bt177.1, bt177.2, a0_9, a0_10, a0_11))) = some (r1, r2, r3, r4, r5, r6, r7, r8, r9, r10, r11, r12) := H
 have A2 := Aside0.mk A20
 clear A20
 replace H := Option.bind_eq_some_iff.mp H
 obtain ⟨⟨t177, t178⟩, A30, H⟩ := H
 replace H : (some (a0_0, a0_1, a0_2, t175, t176, a0_5, a0_6, t177, t178, a0_9, a0_10, a0_11)) = some (r1, r2, r3, r4, r5, r6, r7, r8, r9, r10, r11, r12) := H
 have A3 := Aside0.mk A30
 clear A30
 simp only [Option.some.injEq, Prod.mk.injEq] at H
 obtain ⟨rfl, rfl, rfl, rfl, rfl, rfl, rfl, rfl, rfl, rfl, rfl, rfl⟩ := H
 go_enter Tryd.func13, Tryd.ntmps13
 go_wp2_with (first | ((with_reducible refine gate_dst (N := 1) rfl ?_); refine box_event ?hg (N := 1) ?hd (cs := #[.int .i64 a0_0, .int .i64 a0_1, .int .i64 a0_2, .int .i64 a0_3, .int .i64 a0_4, .int .i64 a0_5, .int .i64 a0_6, .int .i64 a0_7, .int .i64 a0_8, .int .i64 a0_9, .int .i64 a0_10, .int .i64 a0_11]) (t := 41) ?hr ?_; (case hd => rfl); (case hg => rfl); (case hr => first | (go_simp; done) | (go_simp; rfl)); intro gb172 hg w1001 hbox hb; have n0_ := Aside0.mk (below_step wB hb); have n1_ := Aside0.mk (hbox); have n2_ := Aside0.mk ((by rw [hg]; exact (below_size wB) : w.heap.size ≤ gb172)); have n3_ := Aside0.mk ((by rw [hg]; exact (below_size wB) : w.heap.size ≤ gb172)); clear HB; have HB := n0_; have BK172 := n1_; have GW172 := n2_; have GE172 := n3_; clear n0_ n1_ n2_ n3_; clear hb hbox hg) | ((with_reducible refine gate_dst (N := 2) rfl ?_); refine box_event ?hg (N := 2) ?hd (cs := #[.int .i64 0, .int .i64 0, .int .i64 0, .int .i64 0, .int .i64 0, .int .i64 0, .int .i64 0, .int .i64 0, .int .i64 0, .int .i64 0, .int .i64 0, .int .i64 0]) (t := 33) ?hr ?_; (case hd => rfl); (case hg => rfl); (case hr => first | (go_simp; done) | (go_simp; rfl)); intro gb173 hg w1002 hbox hb; have n0_ := Aside0.mk (blk_below (Bh BK172) hb); have n1_ := Aside0.mk (below_step wB hb); have n2_ := Aside0.mk (hbox); have n3_ := Aside0.mk ((by rw [hg]; exact (below_size wB) : w.heap.size ≤ gb173)); have n4_ := Aside0.mk ((by rw [hg]; exact (below_size wB) : w.heap.size ≤ gb173)); have n5_ := Aside0.mk ((by rw [hg]; exact Nat.ne_of_lt (blk_lt (Bh BK172)) : gb172 ≠ gb173)); have n6_ := Aside0.mk ((by rw [hg]; exact Nat.ne_of_gt (blk_lt (Bh BK172)) : gb173 ≠ gb172)); clear BK172; clear HB; have BK172 := n0_; have HB := n1_; have BK173 := n2_; have GW173 := n3_; have GE173 := n4_; have NB172_173 := n5_; have NB173_172 := n6_; clear n0_ n1_ n2_ n3_ n4_ n5_ n6_; clear hb hbox hg) | ((with_reducible refine gate_dst (N := 3) rfl ?_); refine box_event ?hg (N := 3) ?hd (cs := #[.int .i64 0, .int .i64 0, .int .i64 0, .int .i64 0, .int .i64 0, .int .i64 0, .int .i64 0, .int .i64 0, .int .i64 0, .int .i64 0, .int .i64 0, .int .i64 0]) (t := 33) ?hr ?_; (case hd => rfl); (case hg => rfl); (case hr => first | (go_simp; done) | (go_simp; rfl)); intro gb174 hg w1003 hbox hb; have n0_ := Aside0.mk (blk_below (Bh BK172) hb); have n1_ := Aside0.mk (blk_below (Bh BK173) hb); have n2_ := Aside0.mk (below_step wB hb); have n3_ := Aside0.mk (hbox); have n4_ := Aside0.mk ((by rw [hg]; exact (below_size wB) : w.heap.size ≤ gb174)); have n5_ := Aside0.mk ((by rw [hg]; exact (below_size wB) : w.heap.size ≤ gb174)); have n6_ := Aside0.mk ((by rw [hg]; exact Nat.ne_of_lt (blk_lt (Bh BK172)) : gb172 ≠ gb174)); have n7_ := Aside0.mk ((by rw [hg]; exact Nat.ne_of_gt (blk_lt (Bh BK172)) : gb174 ≠ gb172)); have n8_ := Aside0.mk ((by rw [hg]; exact Nat.ne_of_lt (blk_lt (Bh BK173)) : gb173 ≠ gb174)); have n9_ := Aside0.mk ((by rw [hg]; exact Nat.ne_of_gt (blk_lt (Bh BK173)) : gb174 ≠ gb173)); clear BK172; clear BK173; clear HB; have BK172 := n0_; have BK173 := n1_; have HB := n2_; have BK174 := n3_; have GW174 := n4_; have GE174 := n5_; have NB172_174 := n6_; have NB174_172 := n7_; have NB173_174 := n8_; have NB174_173 := n9_; clear n0_ n1_ n2_ n3_ n4_ n5_ n6_ n7_ n8_ n9_; clear hb hbox hg; have hnb1004 := NB172_173.out; have hnc1004 := NB173_172.out; have hnb1005 := NB172_174.out; have hnc1005 := NB174_172.out; obtain ⟨⟨hcz1006_0, hcz1006_1, hcz1006_2, hcz1006_3, hcz1006_4, hcz1006_5, hcz1006_6, hcz1006_7, hcz1006_8, hcz1006_9, hcz1006_10, hcz1006_11⟩, hfz1006_0, hfz1006_1, hfz1006_2, hfz1006_3, hfz1006_4, hfz1006_5, hfz1006_6, hfz1006_7, hfz1006_8, hfz1006_9, hfz1006_10, hfz1006_11⟩ := cells12 BK172.out; have hnb1007 := NB174_173.out; have hnc1007 := NB173_174.out; obtain ⟨⟨hcz1008_0, hcz1008_1, hcz1008_2, hcz1008_3, hcz1008_4, hcz1008_5, hcz1008_6, hcz1008_7, hcz1008_8, hcz1008_9, hcz1008_10, hcz1008_11⟩, hfz1008_0, hfz1008_1, hfz1008_2, hfz1008_3, hfz1008_4, hfz1008_5, hfz1008_6, hfz1008_7, hfz1008_8, hfz1008_9, hfz1008_10, hfz1008_11⟩ := cells12 BK174.out) | ((with_reducible refine gate_store (t := 2) (p := 9) rfl ?_); refine store_event (t := 2) (p := 9) (v := ?_) (w1 := ((w1003.setCell ⟨gb174, 0, none⟩ (.int .i64 a0_0)).setCell ⟨gb174, 1, none⟩ (.int .i64 a0_1))) ?hg ?ho ?hn ?hr ?_; (case ho => rfl); (case hg => rfl); (case hn => rfl); (case hr => first | (go_simp; done) | (go_simp; rfl)); intro w1009 hw; have n0_ : Aside0 (w1009.heap[gb172]? = some (.cells #[.int .i64 a0_0, .int .i64 a0_1, .int .i64 a0_2, .int .i64 a0_3, .int .i64 a0_4, .int .i64 a0_5, .int .i64 a0_6, .int .i64 a0_7, .int .i64 a0_8, .int .i64 a0_9, .int .i64 a0_10, .int .i64 a0_11] 41 (0, 0))) := ⟨(by rw [hw]; exact (by (with_reducible repeat (first | refine blk_drewN ?_ _ | refine blk_drew ?_ | refine blk_alloc ?_ _)); refine blk_far ?_ NB172_174.out _; (with_reducible repeat (first | refine blk_drewN ?_ _ | refine blk_drew ?_ | refine blk_alloc ?_ _)); refine blk_far ?_ NB172_174.out _; (with_reducible repeat (first | refine blk_drewN ?_ _ | refine blk_drew ?_ | refine blk_alloc ?_ _)); exact BK172.out))⟩; have n1_ : Aside0 (w1009.heap[gb173]? = some (.cells #[.int .i64 0, .int .i64 0, .int .i64 0, .int .i64 0, .int .i64 0, .int .i64 0, .int .i64 0, .int .i64 0, .int .i64 0, .int .i64 0, .int .i64 0, .int .i64 0] 33 (0, 0))) := ⟨(by rw [hw]; exact (by (with_reducible repeat (first | refine blk_drewN ?_ _ | refine blk_drew ?_ | refine blk_alloc ?_ _)); refine blk_far ?_ NB173_174.out _; (with_reducible repeat (first | refine blk_drewN ?_ _ | refine blk_drew ?_ | refine blk_alloc ?_ _)); refine blk_far ?_ NB173_174.out _; (with_reducible repeat (first | refine blk_drewN ?_ _ | refine blk_drew ?_ | refine blk_alloc ?_ _)); exact BK173.out))⟩; have n2_ : Aside0 (w1009.heap[gb174]? = some (.cells #[.int .i64 a0_0, .int .i64 a0_1, .int .i64 0, .int .i64 0, .int .i64 0, .int .i64 0, .int .i64 0, .int .i64 0, .int .i64 0, .int .i64 0, .int .i64 0, .int .i64 0] 33 (0, 0))) := ⟨(by rw [hw]; exact (by (with_reducible repeat (first | refine blk_drewN ?_ _ | refine blk_drew ?_ | refine blk_alloc ?_ _)); refine blk_put (cs := #[.int .i64 a0_0, .int .i64 0, .int .i64 0, .int .i64 0, .int .i64 0, .int .i64 0, .int .i64 0, .int .i64 0, .int .i64 0, .int .i64 0, .int .i64 0, .int .i64 0]) ?_ 1 _ rfl; (with_reducible repeat (first | refine blk_drewN ?_ _ | refine blk_drew ?_ | refine blk_alloc ?_ _)); refine blk_put (cs := #[.int .i64 0, .int .i64 0, .int .i64 0, .int .i64 0, .int .i64 0, .int .i64 0, .int .i64 0, .int .i64 0, .int .i64 0, .int .i64 0, .int .i64 0, .int .i64 0]) ?_ 0 _ rfl; (with_reducible repeat (first | refine blk_drewN ?_ _ | refine blk_drew ?_ | refine blk_alloc ?_ _)); exact BK174.out))⟩; have n3_ : Aside0 (Below w.heap.size w w1009) := ⟨(by rw [hw]; exact wB)⟩; clear hw; clear BK172; clear BK173; clear BK174; clear HB; have BK172 := n0_; have BK173 := n1_; have BK174 := n2_; have HB := n3_; clear n0_ n1_ n2_ n3_; obtain ⟨⟨hcz1010_0, hcz1010_1, hcz1010_2, hcz1010_3, hcz1010_4, hcz1010_5, hcz1010_6, hcz1010_7, hcz1010_8, hcz1010_9, hcz1010_10, hcz1010_11⟩, hfz1010_0, hfz1010_1, hfz1010_2, hfz1010_3, hfz1010_4, hfz1010_5, hfz1010_6, hfz1010_7, hfz1010_8, hfz1010_9, hfz1010_10, hfz1010_11⟩ := cells12 BK172.out; obtain ⟨⟨hcz1011_0, hcz1011_1, hcz1011_2, hcz1011_3, hcz1011_4, hcz1011_5, hcz1011_6, hcz1011_7, hcz1011_8, hcz1011_9, hcz1011_10, hcz1011_11⟩, hfz1011_0, hfz1011_1, hfz1011_2, hfz1011_3, hfz1011_4, hfz1011_5, hfz1011_6, hfz1011_7, hfz1011_8, hfz1011_9, hfz1011_10, hfz1011_11⟩ := cells12 BK174.out) | ((with_reducible refine gate_callee (f := 24) rfl ?_); refine goesL_ (some 15) rfl rfl Tryd.func24 (by kernel_rfl) rfl #[.agg #[.int .i64 a0_3, .int .i64 a0_4]] rfl wT ?_; (with_reducible refine (laws_toPrefix.calls a0_3 a0_4 t175 t176 _ A2.out).mono ?_); rintro e w1012 ⟨rfl, hb⟩; refine ⟨_, rfl, ?_⟩; have n0_ := Aside0.mk (blk_below (g := gb172) (o := .cells #[.int .i64 a0_0, .int .i64 a0_1, .int .i64 a0_2, .int .i64 a0_3, .int .i64 a0_4, .int .i64 a0_5, .int .i64 a0_6, .int .i64 a0_7, .int .i64 a0_8, .int .i64 a0_9, .int .i64 a0_10, .int .i64 a0_11] 41 (0, 0)) (by (with_reducible repeat (first | refine blk_drewN ?_ _ | refine blk_drew ?_ | refine blk_alloc ?_ _)); refine blk_far ?_ NB172_174.out _; (with_reducible repeat (first | refine blk_drewN ?_ _ | refine blk_drew ?_ | refine blk_alloc ?_ _)); exact BK172.out) hb); have n1_ := Aside0.mk (blk_below (g := gb173) (o := .cells #[.int .i64 0, .int .i64 0, .int .i64 0, .int .i64 0, .int .i64 0, .int .i64 0, .int .i64 0, .int .i64 0, .int .i64 0, .int .i64 0, .int .i64 0, .int .i64 0] 33 (0, 0)) (by (with_reducible repeat (first | refine blk_drewN ?_ _ | refine blk_drew ?_ | refine blk_alloc ?_ _)); refine blk_far ?_ NB173_174.out _; (with_reducible repeat (first | refine blk_drewN ?_ _ | refine blk_drew ?_ | refine blk_alloc ?_ _)); exact BK173.out) hb); have n2_ := Aside0.mk (blk_below (g := gb174) (o := .cells #[.int .i64 a0_0, .int .i64 a0_1, .int .i64 a0_2, .int .i64 0, .int .i64 0, .int .i64 0, .int .i64 0, .int .i64 0, .int .i64 0, .int .i64 0, .int .i64 0, .int .i64 0] 33 (0, 0)) (by (with_reducible repeat (first | refine blk_drewN ?_ _ | refine blk_drew ?_ | refine blk_alloc ?_ _)); refine blk_put (cs := #[.int .i64 a0_0, .int .i64 a0_1, .int .i64 0, .int .i64 0, .int .i64 0, .int .i64 0, .int .i64 0, .int .i64 0, .int .i64 0, .int .i64 0, .int .i64 0, .int .i64 0]) ?_ 2 _ rfl; (with_reducible repeat (first | refine blk_drewN ?_ _ | refine blk_drew ?_ | refine blk_alloc ?_ _)); exact BK174.out) hb); have n3_ := Aside0.mk (below_step wB hb); clear BK172; clear BK173; clear BK174; clear HB; have BK172 := n0_; have BK173 := n1_; have BK174 := n2_; have HB := n3_; clear n0_ n1_ n2_ n3_; (try clear hb); (try clear hb2); (try clear hk); (try clear hi); obtain ⟨⟨hcz1013_0, hcz1013_1, hcz1013_2, hcz1013_3, hcz1013_4, hcz1013_5, hcz1013_6, hcz1013_7, hcz1013_8, hcz1013_9, hcz1013_10, hcz1013_11⟩, hfz1013_0, hfz1013_1, hfz1013_2, hfz1013_3, hfz1013_4, hfz1013_5, hfz1013_6, hfz1013_7, hfz1013_8, hfz1013_9, hfz1013_10, hfz1013_11⟩ := cells12 BK174.out) | ((with_reducible refine gate_store (t := 31) (p := 16) rfl ?_); refine store_event (t := 31) (p := 16) (v := ?_) (w1 := ((w1012.setCell ⟨gb174, 3, none⟩ (.int .i64 t175)).setCell ⟨gb174, 4, none⟩ (.int .i64 t176))) ?hg ?ho ?hn ?hr ?_; (case ho => rfl); (case hg => rfl); (case hn => rfl); (case hr => first | (go_simp; done) | (go_simp; rfl)); intro w1014 hw; have n0_ : Aside0 (w1014.heap[gb172]? = some (.cells #[.int .i64 a0_0, .int .i64 a0_1, .int .i64 a0_2, .int .i64 a0_3, .int .i64 a0_4, .int .i64 a0_5, .int .i64 a0_6, .int .i64 a0_7, .int .i64 a0_8, .int .i64 a0_9, .int .i64 a0_10, .int .i64 a0_11] 41 (0, 0))) := ⟨(by rw [hw]; exact (by (with_reducible repeat (first | refine blk_drewN ?_ _ | refine blk_drew ?_ | refine blk_alloc ?_ _)); refine blk_far ?_ NB172_174.out _; (with_reducible repeat (first | refine blk_drewN ?_ _ | refine blk_drew ?_ | refine blk_alloc ?_ _)); refine blk_far ?_ NB172_174.out _; (with_reducible repeat (first | refine blk_drewN ?_ _ | refine blk_drew ?_ | refine blk_alloc ?_ _)); exact BK172.out))⟩; have n1_ : Aside0 (w1014.heap[gb173]? = some (.cells #[.int .i64 0, .int .i64 0, .int .i64 0, .int .i64 0, .int .i64 0, .int .i64 0, .int .i64 0, .int .i64 0, .int .i64 0, .int .i64 0, .int .i64 0, .int .i64 0] 33 (0, 0))) := ⟨(by rw [hw]; exact (by (with_reducible repeat (first | refine blk_drewN ?_ _ | refine blk_drew ?_ | refine blk_alloc ?_ _)); refine blk_far ?_ NB173_174.out _; (with_reducible repeat (first | refine blk_drewN ?_ _ | refine blk_drew ?_ | refine blk_alloc ?_ _)); refine blk_far ?_ NB173_174.out _; (with_reducible repeat (first | refine blk_drewN ?_ _ | refine blk_drew ?_ | refine blk_alloc ?_ _)); exact BK173.out))⟩; have n2_ : Aside0 (w1014.heap[gb174]? = some (.cells #[.int .i64 a0_0, .int .i64 a0_1, .int .i64 a0_2, .int .i64 t175, .int .i64 t176, .int .i64 0, .int .i64 0, .int .i64 0, .int .i64 0, .int .i64 0, .int .i64 0, .int .i64 0] 33 (0, 0))) := ⟨(by rw [hw]; exact (by (with_reducible repeat (first | refine blk_drewN ?_ _ | refine blk_drew ?_ | refine blk_alloc ?_ _)); refine blk_put (cs := #[.int .i64 a0_0, .int .i64 a0_1, .int .i64 a0_2, .int .i64 t175, .int .i64 0, .int .i64 0, .int .i64 0, .int .i64 0, .int .i64 0, .int .i64 0, .int .i64 0, .int .i64 0]) ?_ 4 _ rfl; (with_reducible repeat (first | refine blk_drewN ?_ _ | refine blk_drew ?_ | refine blk_alloc ?_ _)); refine blk_put (cs := #[.int .i64 a0_0, .int .i64 a0_1, .int .i64 a0_2, .int .i64 0, .int .i64 0, .int .i64 0, .int .i64 0, .int .i64 0, .int .i64 0, .int .i64 0, .int .i64 0, .int .i64 0]) ?_ 3 _ rfl; (with_reducible repeat (first | refine blk_drewN ?_ _ | refine blk_drew ?_ | refine blk_alloc ?_ _)); exact BK174.out))⟩; have n3_ : Aside0 (Below w.heap.size w w1014) := ⟨(by rw [hw]; exact wB)⟩; clear hw; clear BK172; clear BK173; clear BK174; clear HB; have BK172 := n0_; have BK173 := n1_; have BK174 := n2_; have HB := n3_; clear n0_ n1_ n2_ n3_; obtain ⟨⟨hcz1015_0, hcz1015_1, hcz1015_2, hcz1015_3, hcz1015_4, hcz1015_5, hcz1015_6, hcz1015_7, hcz1015_8, hcz1015_9, hcz1015_10, hcz1015_11⟩, hfz1015_0, hfz1015_1, hfz1015_2, hfz1015_3, hfz1015_4, hfz1015_5, hfz1015_6, hfz1015_7, hfz1015_8, hfz1015_9, hfz1015_10, hfz1015_11⟩ := cells12 BK172.out; obtain ⟨⟨hcz1016_0, hcz1016_1, hcz1016_2, hcz1016_3, hcz1016_4, hcz1016_5, hcz1016_6, hcz1016_7, hcz1016_8, hcz1016_9, hcz1016_10, hcz1016_11⟩, hfz1016_0, hfz1016_1, hfz1016_2, hfz1016_3, hfz1016_4, hfz1016_5, hfz1016_6, hfz1016_7, hfz1016_8, hfz1016_9, hfz1016_10, hfz1016_11⟩ := cells12 BK174.out) | ((with_reducible refine gate_store (t := 2) (p := 22) rfl ?_); refine store_event (t := 2) (p := 22) (v := ?_) (w1 := ((w1014.setCell ⟨gb174, 5, none⟩ (.int .i64 a0_5)).setCell ⟨gb174, 6, none⟩ (.int .i64 a0_6))) ?hg ?ho ?hn ?hr ?_; (case ho => rfl); (case hg => rfl); (case hn => rfl); (case hr => first | (go_simp; done) | (go_simp; rfl)); intro w1017 hw; have n0_ : Aside0 (w1017.heap[gb172]? = some (.cells #[.int .i64 a0_0, .int .i64 a0_1, .int .i64 a0_2, .int .i64 a0_3, .int .i64 a0_4, .int .i64 a0_5, .int .i64 a0_6, .int .i64 a0_7, .int .i64 a0_8, .int .i64 a0_9, .int .i64 a0_10, .int .i64 a0_11] 41 (0, 0))) := ⟨(by rw [hw]; exact (by (with_reducible repeat (first | refine blk_drewN ?_ _ | refine blk_drew ?_ | refine blk_alloc ?_ _)); refine blk_far ?_ NB172_174.out _; (with_reducible repeat (first | refine blk_drewN ?_ _ | refine blk_drew ?_ | refine blk_alloc ?_ _)); refine blk_far ?_ NB172_174.out _; (with_reducible repeat (first | refine blk_drewN ?_ _ | refine blk_drew ?_ | refine blk_alloc ?_ _)); exact BK172.out))⟩; have n1_ : Aside0 (w1017.heap[gb173]? = some (.cells #[.int .i64 0, .int .i64 0, .int .i64 0, .int .i64 0, .int .i64 0, .int .i64 0, .int .i64 0, .int .i64 0, .int .i64 0, .int .i64 0, .int .i64 0, .int .i64 0] 33 (0, 0))) := ⟨(by rw [hw]; exact (by (with_reducible repeat (first | refine blk_drewN ?_ _ | refine blk_drew ?_ | refine blk_alloc ?_ _)); refine blk_far ?_ NB173_174.out _; (with_reducible repeat (first | refine blk_drewN ?_ _ | refine blk_drew ?_ | refine blk_alloc ?_ _)); refine blk_far ?_ NB173_174.out _; (with_reducible repeat (first | refine blk_drewN ?_ _ | refine blk_drew ?_ | refine blk_alloc ?_ _)); exact BK173.out))⟩; have n2_ : Aside0 (w1017.heap[gb174]? = some (.cells #[.int .i64 a0_0, .int .i64 a0_1, .int .i64 a0_2, .int .i64 t175, .int .i64 t176, .int .i64 a0_5, .int .i64 a0_6, .int .i64 0, .int .i64 0, .int .i64 0, .int .i64 0, .int .i64 0] 33 (0, 0))) := ⟨(by rw [hw]; exact (by (with_reducible repeat (first | refine blk_drewN ?_ _ | refine blk_drew ?_ | refine blk_alloc ?_ _)); refine blk_put (cs := #[.int .i64 a0_0, .int .i64 a0_1, .int .i64 a0_2, .int .i64 t175, .int .i64 t176, .int .i64 a0_5, .int .i64 0, .int .i64 0, .int .i64 0, .int .i64 0, .int .i64 0, .int .i64 0]) ?_ 6 _ rfl; (with_reducible repeat (first | refine blk_drewN ?_ _ | refine blk_drew ?_ | refine blk_alloc ?_ _)); refine blk_put (cs := #[.int .i64 a0_0, .int .i64 a0_1, .int .i64 a0_2, .int .i64 t175, .int .i64 t176, .int .i64 0, .int .i64 0, .int .i64 0, .int .i64 0, .int .i64 0, .int .i64 0, .int .i64 0]) ?_ 5 _ rfl; (with_reducible repeat (first | refine blk_drewN ?_ _ | refine blk_drew ?_ | refine blk_alloc ?_ _)); exact BK174.out))⟩; have n3_ : Aside0 (Below w.heap.size w w1017) := ⟨(by rw [hw]; exact wB)⟩; clear hw; clear BK172; clear BK173; clear BK174; clear HB; have BK172 := n0_; have BK173 := n1_; have BK174 := n2_; have HB := n3_; clear n0_ n1_ n2_ n3_; obtain ⟨⟨hcz1018_0, hcz1018_1, hcz1018_2, hcz1018_3, hcz1018_4, hcz1018_5, hcz1018_6, hcz1018_7, hcz1018_8, hcz1018_9, hcz1018_10, hcz1018_11⟩, hfz1018_0, hfz1018_1, hfz1018_2, hfz1018_3, hfz1018_4, hfz1018_5, hfz1018_6, hfz1018_7, hfz1018_8, hfz1018_9, hfz1018_10, hfz1018_11⟩ := cells12 BK172.out) | ((with_reducible refine gate_callee (f := 24) rfl ?_); refine goesL_ (some 25) rfl rfl Tryd.func24 (by kernel_rfl) rfl #[.agg #[.int .i64 a0_7, .int .i64 a0_8]] rfl wT ?_; (with_reducible refine (laws_toPrefix.calls a0_7 a0_8 t177 t178 _ A3.out).mono ?_); rintro e w1019 ⟨rfl, hb⟩; refine ⟨_, rfl, ?_⟩; have n0_ := Aside0.mk (blk_below (Bh BK172) hb); have n1_ := Aside0.mk (blk_below (Bh BK173) hb); have n2_ := Aside0.mk (blk_below (Bh BK174) hb); have n3_ := Aside0.mk (below_step wB hb); clear BK172; clear BK173; clear BK174; clear HB; have BK172 := n0_; have BK173 := n1_; have BK174 := n2_; have HB := n3_; clear n0_ n1_ n2_ n3_; (try clear hb); (try clear hb2); (try clear hk); (try clear hi); obtain ⟨⟨hcz1020_0, hcz1020_1, hcz1020_2, hcz1020_3, hcz1020_4, hcz1020_5, hcz1020_6, hcz1020_7, hcz1020_8, hcz1020_9, hcz1020_10, hcz1020_11⟩, hfz1020_0, hfz1020_1, hfz1020_2, hfz1020_3, hfz1020_4, hfz1020_5, hfz1020_6, hfz1020_7, hfz1020_8, hfz1020_9, hfz1020_10, hfz1020_11⟩ := cells12 BK174.out) | ((with_reducible refine gate_store (t := 31) (p := 26) rfl ?_); refine store_event (t := 31) (p := 26) (v := ?_) (w1 := ((w1019.setCell ⟨gb174, 7, none⟩ (.int .i64 t177)).setCell ⟨gb174, 8, none⟩ (.int .i64 t178))) ?hg ?ho ?hn ?hr ?_; (case ho => rfl); (case hg => rfl); (case hn => rfl); (case hr => first | (go_simp; done) | (go_simp; rfl)); intro w1021 hw; have n0_ : Aside0 (w1021.heap[gb172]? = some (.cells #[.int .i64 a0_0, .int .i64 a0_1, .int .i64 a0_2, .int .i64 a0_3, .int .i64 a0_4, .int .i64 a0_5, .int .i64 a0_6, .int .i64 a0_7, .int .i64 a0_8, .int .i64 a0_9, .int .i64 a0_10, .int .i64 a0_11] 41 (0, 0))) := ⟨(by rw [hw]; exact (by (with_reducible repeat (first | refine blk_drewN ?_ _ | refine blk_drew ?_ | refine blk_alloc ?_ _)); refine blk_far ?_ NB172_174.out _; (with_reducible repeat (first | refine blk_drewN ?_ _ | refine blk_drew ?_ | refine blk_alloc ?_ _)); refine blk_far ?_ NB172_174.out _; (with_reducible repeat (first | refine blk_drewN ?_ _ | refine blk_drew ?_ | refine blk_alloc ?_ _)); exact BK172.out))⟩; have n1_ : Aside0 (w1021.heap[gb173]? = some (.cells #[.int .i64 0, .int .i64 0, .int .i64 0, .int .i64 0, .int .i64 0, .int .i64 0, .int .i64 0, .int .i64 0, .int .i64 0, .int .i64 0, .int .i64 0, .int .i64 0] 33 (0, 0))) := ⟨(by rw [hw]; exact (by (with_reducible repeat (first | refine blk_drewN ?_ _ | refine blk_drew ?_ | refine blk_alloc ?_ _)); refine blk_far ?_ NB173_174.out _; (with_reducible repeat (first | refine blk_drewN ?_ _ | refine blk_drew ?_ | refine blk_alloc ?_ _)); refine blk_far ?_ NB173_174.out _; (with_reducible repeat (first | refine blk_drewN ?_ _ | refine blk_drew ?_ | refine blk_alloc ?_ _)); exact BK173.out))⟩; have n2_ : Aside0 (w1021.heap[gb174]? = some (.cells #[.int .i64 a0_0, .int .i64 a0_1, .int .i64 a0_2, .int .i64 t175, .int .i64 t176, .int .i64 a0_5, .int .i64 a0_6, .int .i64 t177, .int .i64 t178, .int .i64 0, .int .i64 0, .int .i64 0] 33 (0, 0))) := ⟨(by rw [hw]; exact (by (with_reducible repeat (first | refine blk_drewN ?_ _ | refine blk_drew ?_ | refine blk_alloc ?_ _)); refine blk_put (cs := #[.int .i64 a0_0, .int .i64 a0_1, .int .i64 a0_2, .int .i64 t175, .int .i64 t176, .int .i64 a0_5, .int .i64 a0_6, .int .i64 t177, .int .i64 0, .int .i64 0, .int .i64 0, .int .i64 0]) ?_ 8 _ rfl; (with_reducible repeat (first | refine blk_drewN ?_ _ | refine blk_drew ?_ | refine blk_alloc ?_ _)); refine blk_put (cs := #[.int .i64 a0_0, .int .i64 a0_1, .int .i64 a0_2, .int .i64 t175, .int .i64 t176, .int .i64 a0_5, .int .i64 a0_6, .int .i64 0, .int .i64 0, .int .i64 0, .int .i64 0, .int .i64 0]) ?_ 7 _ rfl; (with_reducible repeat (first | refine blk_drewN ?_ _ | refine blk_drew ?_ | refine blk_alloc ?_ _)); exact BK174.out))⟩; have n3_ : Aside0 (Below w.heap.size w w1021) := ⟨(by rw [hw]; exact wB)⟩; clear hw; clear BK172; clear BK173; clear BK174; clear HB; have BK172 := n0_; have BK173 := n1_; have BK174 := n2_; have HB := n3_; clear n0_ n1_ n2_ n3_; obtain ⟨⟨hcz1022_0, hcz1022_1, hcz1022_2, hcz1022_3, hcz1022_4, hcz1022_5, hcz1022_6, hcz1022_7, hcz1022_8, hcz1022_9, hcz1022_10, hcz1022_11⟩, hfz1022_0, hfz1022_1, hfz1022_2, hfz1022_3, hfz1022_4, hfz1022_5, hfz1022_6, hfz1022_7, hfz1022_8, hfz1022_9, hfz1022_10, hfz1022_11⟩ := cells12 BK172.out; obtain ⟨⟨hcz1023_0, hcz1023_1, hcz1023_2, hcz1023_3, hcz1023_4, hcz1023_5, hcz1023_6, hcz1023_7, hcz1023_8, hcz1023_9, hcz1023_10, hcz1023_11⟩, hfz1023_0, hfz1023_1, hfz1023_2, hfz1023_3, hfz1023_4, hfz1023_5, hfz1023_6, hfz1023_7, hfz1023_8, hfz1023_9, hfz1023_10, hfz1023_11⟩ := cells12 BK174.out) | ((with_reducible refine gate_store (t := 2) (p := 32) rfl ?_); refine store_event (t := 2) (p := 32) (v := ?_) (w1 := ((w1021.setCell ⟨gb174, 9, none⟩ (.int .i64 a0_9)).setCell ⟨gb174, 10, none⟩ (.int .i64 a0_10))) ?hg ?ho ?hn ?hr ?_; (case ho => rfl); (case hg => rfl); (case hn => rfl); (case hr => first | (go_simp; done) | (go_simp; rfl)); intro w1024 hw; have n0_ : Aside0 (w1024.heap[gb172]? = some (.cells #[.int .i64 a0_0, .int .i64 a0_1, .int .i64 a0_2, .int .i64 a0_3, .int .i64 a0_4, .int .i64 a0_5, .int .i64 a0_6, .int .i64 a0_7, .int .i64 a0_8, .int .i64 a0_9, .int .i64 a0_10, .int .i64 a0_11] 41 (0, 0))) := ⟨(by rw [hw]; exact (by (with_reducible repeat (first | refine blk_drewN ?_ _ | refine blk_drew ?_ | refine blk_alloc ?_ _)); refine blk_far ?_ NB172_174.out _; (with_reducible repeat (first | refine blk_drewN ?_ _ | refine blk_drew ?_ | refine blk_alloc ?_ _)); refine blk_far ?_ NB172_174.out _; (with_reducible repeat (first | refine blk_drewN ?_ _ | refine blk_drew ?_ | refine blk_alloc ?_ _)); exact BK172.out))⟩; have n1_ : Aside0 (w1024.heap[gb173]? = some (.cells #[.int .i64 0, .int .i64 0, .int .i64 0, .int .i64 0, .int .i64 0, .int .i64 0, .int .i64 0, .int .i64 0, .int .i64 0, .int .i64 0, .int .i64 0, .int .i64 0] 33 (0, 0))) := ⟨(by rw [hw]; exact (by (with_reducible repeat (first | refine blk_drewN ?_ _ | refine blk_drew ?_ | refine blk_alloc ?_ _)); refine blk_far ?_ NB173_174.out _; (with_reducible repeat (first | refine blk_drewN ?_ _ | refine blk_drew ?_ | refine blk_alloc ?_ _)); refine blk_far ?_ NB173_174.out _; (with_reducible repeat (first | refine blk_drewN ?_ _ | refine blk_drew ?_ | refine blk_alloc ?_ _)); exact BK173.out))⟩; have n2_ : Aside0 (w1024.heap[gb174]? = some (.cells #[.int .i64 a0_0, .int .i64 a0_1, .int .i64 a0_2, .int .i64 t175, .int .i64 t176, .int .i64 a0_5, .int .i64 a0_6, .int .i64 t177, .int .i64 t178, .int .i64 a0_9, .int .i64 a0_10, .int .i64 0] 33 (0, 0))) := ⟨(by rw [hw]; exact (by (with_reducible repeat (first | refine blk_drewN ?_ _ | refine blk_drew ?_ | refine blk_alloc ?_ _)); refine blk_put (cs := #[.int .i64 a0_0, .int .i64 a0_1, .int .i64 a0_2, .int .i64 t175, .int .i64 t176, .int .i64 a0_5, .int .i64 a0_6, .int .i64 t177, .int .i64 t178, .int .i64 a0_9, .int .i64 0, .int .i64 0]) ?_ 10 _ rfl; (with_reducible repeat (first | refine blk_drewN ?_ _ | refine blk_drew ?_ | refine blk_alloc ?_ _)); refine blk_put (cs := #[.int .i64 a0_0, .int .i64 a0_1, .int .i64 a0_2, .int .i64 t175, .int .i64 t176, .int .i64 a0_5, .int .i64 a0_6, .int .i64 t177, .int .i64 t178, .int .i64 0, .int .i64 0, .int .i64 0]) ?_ 9 _ rfl; (with_reducible repeat (first | refine blk_drewN ?_ _ | refine blk_drew ?_ | refine blk_alloc ?_ _)); exact BK174.out))⟩; have n3_ : Aside0 (Below w.heap.size w w1024) := ⟨(by rw [hw]; exact wB)⟩; clear hw; clear BK172; clear BK173; clear BK174; clear HB; have BK172 := n0_; have BK173 := n1_; have BK174 := n2_; have HB := n3_; clear n0_ n1_ n2_ n3_; obtain ⟨⟨hcz1025_0, hcz1025_1, hcz1025_2, hcz1025_3, hcz1025_4, hcz1025_5, hcz1025_6, hcz1025_7, hcz1025_8, hcz1025_9, hcz1025_10, hcz1025_11⟩, hfz1025_0, hfz1025_1, hfz1025_2, hfz1025_3, hfz1025_4, hfz1025_5, hfz1025_6, hfz1025_7, hfz1025_8, hfz1025_9, hfz1025_10, hfz1025_11⟩ := cells12 BK172.out; obtain ⟨⟨hcz1026_0, hcz1026_1, hcz1026_2, hcz1026_3, hcz1026_4, hcz1026_5, hcz1026_6, hcz1026_7, hcz1026_8, hcz1026_9, hcz1026_10, hcz1026_11⟩, hfz1026_0, hfz1026_1, hfz1026_2, hfz1026_3, hfz1026_4, hfz1026_5, hfz1026_6, hfz1026_7, hfz1026_8, hfz1026_9, hfz1026_10, hfz1026_11⟩ := cells12 BK174.out; obtain ⟨⟨hcz1027_0, hcz1027_1, hcz1027_2, hcz1027_3, hcz1027_4, hcz1027_5, hcz1027_6, hcz1027_7, hcz1027_8, hcz1027_9, hcz1027_10, hcz1027_11⟩, hfz1027_0, hfz1027_1, hfz1027_2, hfz1027_3, hfz1027_4, hfz1027_5, hfz1027_6, hfz1027_7, hfz1027_8, hfz1027_9, hfz1027_10, hfz1027_11⟩ := cells12 BK173.out) | ((with_reducible refine gate_store (t := 33) (p := 2) rfl ?_); refine store_event (t := 33) (p := 2) (v := ?_) (w1 := (((((((((((((w1024.setCell ⟨gb174, 11, none⟩ (.int .i64 a0_11)).setCell ⟨gb173, 0, none⟩ (.int .i64 a0_0)).setCell ⟨gb173, 1, none⟩ (.int .i64 a0_1)).setCell ⟨gb173, 2, none⟩ (.int .i64 a0_2)).setCell ⟨gb173, 3, none⟩ (.int .i64 t175)).setCell ⟨gb173, 4, none⟩ (.int .i64 t176)).setCell ⟨gb173, 5, none⟩ (.int .i64 a0_5)).setCell ⟨gb173, 6, none⟩ (.int .i64 a0_6)).setCell ⟨gb173, 7, none⟩ (.int .i64 t177)).setCell ⟨gb173, 8, none⟩ (.int .i64 t178)).setCell ⟨gb173, 9, none⟩ (.int .i64 a0_9)).setCell ⟨gb173, 10, none⟩ (.int .i64 a0_10)).setCell ⟨gb173, 11, none⟩ (.int .i64 a0_11))) ?hg ?ho ?hn ?hr ?_; (case ho => rfl); (case hg => rfl); (case hn => rfl); (case hr => first | (go_simp; done) | (go_simp; rfl)); intro w1028 hw; have n0_ : Aside0 (w1028.heap[gb172]? = some (.cells #[.int .i64 a0_0, .int .i64 a0_1, .int .i64 a0_2, .int .i64 a0_3, .int .i64 a0_4, .int .i64 a0_5, .int .i64 a0_6, .int .i64 a0_7, .int .i64 a0_8, .int .i64 a0_9, .int .i64 a0_10, .int .i64 a0_11] 41 (0, 0))) := ⟨(by rw [hw]; exact (by (with_reducible repeat (first | refine blk_drewN ?_ _ | refine blk_drew ?_ | refine blk_alloc ?_ _)); refine blk_far ?_ NB172_173.out _; (with_reducible repeat (first | refine blk_drewN ?_ _ | refine blk_drew ?_ | refine blk_alloc ?_ _)); refine blk_far ?_ NB172_173.out _; (with_reducible repeat (first | refine blk_drewN ?_ _ | refine blk_drew ?_ | refine blk_alloc ?_ _)); refine blk_far ?_ NB172_173.out _; (with_reducible repeat (first | refine blk_drewN ?_ _ | refine blk_drew ?_ | refine blk_alloc ?_ _)); refine blk_far ?_ NB172_173.out _; (with_reducible repeat (first | refine blk_drewN ?_ _ | refine blk_drew ?_ | refine blk_alloc ?_ _)); refine blk_far ?_ NB172_173.out _; (with_reducible repeat (first | refine blk_drewN ?_ _ | refine blk_drew ?_ | refine blk_alloc ?_ _)); refine blk_far ?_ NB172_173.out _; (with_reducible repeat (first | refine blk_drewN ?_ _ | refine blk_drew ?_ | refine blk_alloc ?_ _)); refine blk_far ?_ NB172_173.out _; (with_reducible repeat (first | refine blk_drewN ?_ _ | refine blk_drew ?_ | refine blk_alloc ?_ _)); refine blk_far ?_ NB172_173.out _; (with_reducible repeat (first | refine blk_drewN ?_ _ | refine blk_drew ?_ | refine blk_alloc ?_ _)); refine blk_far ?_ NB172_173.out _; (with_reducible repeat (first | refine blk_drewN ?_ _ | refine blk_drew ?_ | refine blk_alloc ?_ _)); refine blk_far ?_ NB172_173.out _; (with_reducible repeat (first | refine blk_drewN ?_ _ | refine blk_drew ?_ | refine blk_alloc ?_ _)); refine blk_far ?_ NB172_173.out _; (with_reducible repeat (first | refine blk_drewN ?_ _ | refine blk_drew ?_ | refine blk_alloc ?_ _)); refine blk_far ?_ NB172_173.out _; (with_reducible repeat (first | refine blk_drewN ?_ _ | refine blk_drew ?_ | refine blk_alloc ?_ _)); refine blk_far ?_ NB172_174.out _; (with_reducible repeat (first | refine blk_drewN ?_ _ | refine blk_drew ?_ | refine blk_alloc ?_ _)); exact BK172.out))⟩; have n1_ : Aside0 (w1028.heap[gb173]? = some (.cells #[.int .i64 a0_0, .int .i64 a0_1, .int .i64 a0_2, .int .i64 t175, .int .i64 t176, .int .i64 a0_5, .int .i64 a0_6, .int .i64 t177, .int .i64 t178, .int .i64 a0_9, .int .i64 a0_10, .int .i64 a0_11] 33 (0, 0))) := ⟨(by rw [hw]; exact (by (with_reducible repeat (first | refine blk_drewN ?_ _ | refine blk_drew ?_ | refine blk_alloc ?_ _)); refine blk_put (cs := #[.int .i64 a0_0, .int .i64 a0_1, .int .i64 a0_2, .int .i64 t175, .int .i64 t176, .int .i64 a0_5, .int .i64 a0_6, .int .i64 t177, .int .i64 t178, .int .i64 a0_9, .int .i64 a0_10, .int .i64 0]) ?_ 11 _ rfl; (with_reducible repeat (first | refine blk_drewN ?_ _ | refine blk_drew ?_ | refine blk_alloc ?_ _)); refine blk_put (cs := #[.int .i64 a0_0, .int .i64 a0_1, .int .i64 a0_2, .int .i64 t175, .int .i64 t176, .int .i64 a0_5, .int .i64 a0_6, .int .i64 t177, .int .i64 t178, .int .i64 a0_9, .int .i64 0, .int .i64 0]) ?_ 10 _ rfl; (with_reducible repeat (first | refine blk_drewN ?_ _ | refine blk_drew ?_ | refine blk_alloc ?_ _)); refine blk_put (cs := #[.int .i64 a0_0, .int .i64 a0_1, .int .i64 a0_2, .int .i64 t175, .int .i64 t176, .int .i64 a0_5, .int .i64 a0_6, .int .i64 t177, .int .i64 t178, .int .i64 0, .int .i64 0, .int .i64 0]) ?_ 9 _ rfl; (with_reducible repeat (first | refine blk_drewN ?_ _ | refine blk_drew ?_ | refine blk_alloc ?_ _)); refine blk_put (cs := #[.int .i64 a0_0, .int .i64 a0_1, .int .i64 a0_2, .int .i64 t175, .int .i64 t176, .int .i64 a0_5, .int .i64 a0_6, .int .i64 t177, .int .i64 0, .int .i64 0, .int .i64 0, .int .i64 0]) ?_ 8 _ rfl; (with_reducible repeat (first | refine blk_drewN ?_ _ | refine blk_drew ?_ | refine blk_alloc ?_ _)); refine blk_put (cs := #[.int .i64 a0_0, .int .i64 a0_1, .int .i64 a0_2, .int .i64 t175, .int .i64 t176, .int .i64 a0_5, .int .i64 a0_6, .int .i64 0, .int .i64 0, .int .i64 0, .int .i64 0, .int .i64 0]) ?_ 7 _ rfl; (with_reducible repeat (first | refine blk_drewN ?_ _ | refine blk_drew ?_ | refine blk_alloc ?_ _)); refine blk_put (cs := #[.int .i64 a0_0, .int .i64 a0_1, .int .i64 a0_2, .int .i64 t175, .int .i64 t176, .int .i64 a0_5, .int .i64 0, .int .i64 0, .int .i64 0, .int .i64 0, .int .i64 0, .int .i64 0]) ?_ 6 _ rfl; (with_reducible repeat (first | refine blk_drewN ?_ _ | refine blk_drew ?_ | refine blk_alloc ?_ _)); refine blk_put (cs := #[.int .i64 a0_0, .int .i64 a0_1, .int .i64 a0_2, .int .i64 t175, .int .i64 t176, .int .i64 0, .int .i64 0, .int .i64 0, .int .i64 0, .int .i64 0, .int .i64 0, .int .i64 0]) ?_ 5 _ rfl; (with_reducible repeat (first | refine blk_drewN ?_ _ | refine blk_drew ?_ | refine blk_alloc ?_ _)); refine blk_put (cs := #[.int .i64 a0_0, .int .i64 a0_1, .int .i64 a0_2, .int .i64 t175, .int .i64 0, .int .i64 0, .int .i64 0, .int .i64 0, .int .i64 0, .int .i64 0, .int .i64 0, .int .i64 0]) ?_ 4 _ rfl; (with_reducible repeat (first | refine blk_drewN ?_ _ | refine blk_drew ?_ | refine blk_alloc ?_ _)); refine blk_put (cs := #[.int .i64 a0_0, .int .i64 a0_1, .int .i64 a0_2, .int .i64 0, .int .i64 0, .int .i64 0, .int .i64 0, .int .i64 0, .int .i64 0, .int .i64 0, .int .i64 0, .int .i64 0]) ?_ 3 _ rfl; (with_reducible repeat (first | refine blk_drewN ?_ _ | refine blk_drew ?_ | refine blk_alloc ?_ _)); refine blk_put (cs := #[.int .i64 a0_0, .int .i64 a0_1, .int .i64 0, .int .i64 0, .int .i64 0, .int .i64 0, .int .i64 0, .int .i64 0, .int .i64 0, .int .i64 0, .int .i64 0, .int .i64 0]) ?_ 2 _ rfl; (with_reducible repeat (first | refine blk_drewN ?_ _ | refine blk_drew ?_ | refine blk_alloc ?_ _)); refine blk_put (cs := #[.int .i64 a0_0, .int .i64 0, .int .i64 0, .int .i64 0, .int .i64 0, .int .i64 0, .int .i64 0, .int .i64 0, .int .i64 0, .int .i64 0, .int .i64 0, .int .i64 0]) ?_ 1 _ rfl; (with_reducible repeat (first | refine blk_drewN ?_ _ | refine blk_drew ?_ | refine blk_alloc ?_ _)); refine blk_put (cs := #[.int .i64 0, .int .i64 0, .int .i64 0, .int .i64 0, .int .i64 0, .int .i64 0, .int .i64 0, .int .i64 0, .int .i64 0, .int .i64 0, .int .i64 0, .int .i64 0]) ?_ 0 _ rfl; (with_reducible repeat (first | refine blk_drewN ?_ _ | refine blk_drew ?_ | refine blk_alloc ?_ _)); refine blk_far ?_ NB173_174.out _; (with_reducible repeat (first | refine blk_drewN ?_ _ | refine blk_drew ?_ | refine blk_alloc ?_ _)); exact BK173.out))⟩; have n2_ : Aside0 (w1028.heap[gb174]? = some (.cells #[.int .i64 a0_0, .int .i64 a0_1, .int .i64 a0_2, .int .i64 t175, .int .i64 t176, .int .i64 a0_5, .int .i64 a0_6, .int .i64 t177, .int .i64 t178, .int .i64 a0_9, .int .i64 a0_10, .int .i64 a0_11] 33 (0, 0))) := ⟨(by rw [hw]; exact (by (with_reducible repeat (first | refine blk_drewN ?_ _ | refine blk_drew ?_ | refine blk_alloc ?_ _)); refine blk_far ?_ NB174_173.out _; (with_reducible repeat (first | refine blk_drewN ?_ _ | refine blk_drew ?_ | refine blk_alloc ?_ _)); refine blk_far ?_ NB174_173.out _; (with_reducible repeat (first | refine blk_drewN ?_ _ | refine blk_drew ?_ | refine blk_alloc ?_ _)); refine blk_far ?_ NB174_173.out _; (with_reducible repeat (first | refine blk_drewN ?_ _ | refine blk_drew ?_ | refine blk_alloc ?_ _)); refine blk_far ?_ NB174_173.out _; (with_reducible repeat (first | refine blk_drewN ?_ _ | refine blk_drew ?_ | refine blk_alloc ?_ _)); refine blk_far ?_ NB174_173.out _; (with_reducible repeat (first | refine blk_drewN ?_ _ | refine blk_drew ?_ | refine blk_alloc ?_ _)); refine blk_far ?_ NB174_173.out _; (with_reducible repeat (first | refine blk_drewN ?_ _ | refine blk_drew ?_ | refine blk_alloc ?_ _)); refine blk_far ?_ NB174_173.out _; (with_reducible repeat (first | refine blk_drewN ?_ _ | refine blk_drew ?_ | refine blk_alloc ?_ _)); refine blk_far ?_ NB174_173.out _; (with_reducible repeat (first | refine blk_drewN ?_ _ | refine blk_drew ?_ | refine blk_alloc ?_ _)); refine blk_far ?_ NB174_173.out _; (with_reducible repeat (first | refine blk_drewN ?_ _ | refine blk_drew ?_ | refine blk_alloc ?_ _)); refine blk_far ?_ NB174_173.out _; (with_reducible repeat (first | refine blk_drewN ?_ _ | refine blk_drew ?_ | refine blk_alloc ?_ _)); refine blk_far ?_ NB174_173.out _; (with_reducible repeat (first | refine blk_drewN ?_ _ | refine blk_drew ?_ | refine blk_alloc ?_ _)); refine blk_far ?_ NB174_173.out _; (with_reducible repeat (first | refine blk_drewN ?_ _ | refine blk_drew ?_ | refine blk_alloc ?_ _)); refine blk_put (cs := #[.int .i64 a0_0, .int .i64 a0_1, .int .i64 a0_2, .int .i64 t175, .int .i64 t176, .int .i64 a0_5, .int .i64 a0_6, .int .i64 t177, .int .i64 t178, .int .i64 a0_9, .int .i64 a0_10, .int .i64 0]) ?_ 11 _ rfl; (with_reducible repeat (first | refine blk_drewN ?_ _ | refine blk_drew ?_ | refine blk_alloc ?_ _)); exact BK174.out))⟩; have n3_ : Aside0 (Below w.heap.size w w1028) := ⟨(by rw [hw]; exact wB)⟩; clear hw; clear BK172; clear BK173; clear BK174; clear HB; have BK172 := n0_; have BK173 := n1_; have BK174 := n2_; have HB := n3_; clear n0_ n1_ n2_ n3_))
 refine bodyPost_ret (results_cell_row rfl _ _ gb173 33 #[.int .i64 a0_0, .int .i64 a0_1, .int .i64 a0_2, .int .i64 t175, .int .i64 t176, .int .i64 a0_5, .int .i64 a0_6, .int .i64 t177, .int .i64 t178, .int .i64 a0_9, .int .i64 a0_10, .int .i64 a0_11] (0, 0) _ rfl (Bh BK173) Tryd.underlying33 rfl (by kernel_rfl)) rfl ?_
 exact ⟨by first | rfl | (simp [errW_none, errW_some] <;> rfl) | (simp [*, errW_none, errW_some] <;> rfl), wB⟩

end Go.Proofs.YtmgapmpmmkmdhaaDoor.PFnExactShowRules
