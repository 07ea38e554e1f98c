-- Written for this claim by a program of this session (wip/mkprint.py: the print, turned at a few places). Not trusted: Lean checks it.
import Derived.Test.YtkfbcmbemihbnaaPFnExactComplainx0
import Derived.Test.YtkfbcmbemihbnaaPFnExactComplainx1
import Derived.Test.YtkfbcmbemihbnaaPFnExactComplainx2
namespace Go.Proofs.Ytkfbcmbemihbnaa.PFnExactComplain
open Go.RowKit Go.Proofs.YtkfbcmbemihbnaaW.PrintWords Go.Proofs.YtkfbcmbemihbnaaW.PrintLast Go.Proofs.YtkfbcmbemihbnaaW.PrintMore
attribute [local go_sem] max2_int min2_int max_two min_two max_three min_three max_four min_four   -- for this text's walks alone
set_option linter.unusedVariables false
set_option linter.unusedSimpArgs false

/-! ### spec_EncodeIcmp: function 114 -/
def spec_EncodeIcmp.j0 : Nat → Bool → Int → Int → Int → List Int → Option (List Int × Int)
  | 0, _, _, _, _, _ => none
  | k + 1, x21, x219000, x219001, x219002, x219003 => if x21 = true then (some (([] : List Int), 1)) else (if (x219003.length : Int) > 65000 then (some (([] : List Int), 7)) else ((spec_l03Put.f k x219002 4).bind fun t225 => ((spec_l01Join.f k (([(x219000) % 256, (x219001) % 256, 0, 0] : List Int)) t225).bind fun t228 => ((spec_l01Join.f k t228 x219003).bind fun t231 => ((spec_Checksum.f k t231).bind fun t234 => (if 2 < (t231.length : Int) then (if 3 < (t231.length : Int) then (some (((t231.set (2 : Int).toNat ((t234 / 256) % 256)).set (3 : Int).toNat ((t234) % 256)), 0)) else (none)) else (none)))))))
def spec_EncodeIcmp.f (k : Nat) (a0_0 : Int) (a0_1 : Int) (a0_2 : Int) (l0_3 : List Int) : Option (List Int × Int) := (spec_l01In.f a0_0 0 255).bind fun t219 => (if t219 = true then ((spec_l01In.f a0_1 0 255).bind fun t220 => (if t220 = true then ((spec_l01In.f a0_2 0 4294967295).bind fun t221 => (spec_EncodeIcmp.j0 k (!t221) a0_0 a0_1 a0_2 l0_3)) else (spec_EncodeIcmp.j0 k true a0_0 a0_1 a0_2 l0_3))) else (spec_EncodeIcmp.j0 k true a0_0 a0_1 a0_2 l0_3))
theorem spec_EncodeIcmp.mono_l : ∀ k, (∀ y0 y1 y2 y3 y4, LeO (spec_EncodeIcmp.j0 k y0 y1 y2 y3 y4) (spec_EncodeIcmp.j0 (k + 1) y0 y1 y2 y3 y4))
  | 0 => fun _ _ _ _ _ r h => by simp [spec_EncodeIcmp.j0] at h
  | k + 1 => by
    have ih0 := spec_EncodeIcmp.mono_l k
    · intro y0 y1 y2 y3 y4
      unfold spec_EncodeIcmp.j0
      repeat' first
      | (with_reducible exact ih0 _ _ _ _ _)
      | (with_reducible exact spec_Checksum.mono _ _)
      | (with_reducible exact spec_l01Join.mono _ _ _)
      | (with_reducible exact spec_l03Put.mono _ _ _)
      | (with_reducible exact LeO.refl _)
      | (with_reducible exact LeO.none _)
      | (with_reducible refine LeO.ite ?_ ?_)
      | (with_reducible refine LeO.bind ?_ (fun _ => ?_))
      | exact ih0 _ _ _ _ _
      | exact spec_Checksum.mono _ _
      | exact spec_l01Join.mono _ _ _
      | exact spec_l03Put.mono _ _ _
      | exact LeO.none _
      | refine LeO.ite ?_ ?_
      | refine LeO.bind ?_ (fun _ => ?_)
theorem spec_EncodeIcmp.mono : ∀ a0 a1 a2 a3 k, LeO (spec_EncodeIcmp.f k a0 a1 a2 a3) (spec_EncodeIcmp.f (k + 1) a0 a1 a2 a3) := by
 intro a0 a1 a2 a3 k
 have ih0 := spec_EncodeIcmp.mono_l k
 unfold spec_EncodeIcmp.f
 repeat' first
     | (with_reducible exact ih0 _ _ _ _ _)
     | (with_reducible exact spec_Checksum.mono _ _)
     | (with_reducible exact spec_l01Join.mono _ _ _)
     | (with_reducible exact spec_l03Put.mono _ _ _)
     | (with_reducible exact LeO.refl _)
     | (with_reducible exact LeO.none _)
     | (with_reducible refine LeO.ite ?_ ?_)
     | (with_reducible refine LeO.bind ?_ (fun _ => ?_))
     | exact ih0 _ _ _ _ _
     | exact spec_Checksum.mono _ _
     | exact spec_l01Join.mono _ _ _
     | exact spec_l03Put.mono _ _ _
     | exact LeO.none _
     | refine LeO.ite ?_ ?_
     | refine LeO.bind ?_ (fun _ => ?_)
def spec_EncodeIcmp.T5 : Bool × List (List Nat × List Nat) := (true, [([], []), ([0], [0]), ([1], [1]), ([], []), ([3], [3]), ([4], [4]), ([2, 5], [2, 5]), ([], []), ([7], [7]), ([8], [8]), ([6, 9, 9], [6, 9]), ([10, 10, 0, 1, 2, 3, 4, 5, 6, 7, 8, 9, 10], [10])])
def spec_EncodeIcmp.B5 : List Nat := [0, 1, 3, 0, 8, 24, 63, 0, 128, 384, 1023, 2047]
theorem spec_EncodeIcmp.tab5 : rtab .any (opsOf Try.f114 5) = spec_EncodeIcmp.T5 := by kernel_rfl
theorem spec_EncodeIcmp.bits5 : waitsOk spec_EncodeIcmp.T5.2 spec_EncodeIcmp.B5 = true := by kernel_rfl
set_option maxHeartbeats 60000000 in
set_option maxRecDepth 100000 in
theorem spec_EncodeIcmp.calls (k : Nat) (a0_0 : Int) (a0_1 : Int) (a0_2 : Int) (A0_3 : Option Addr) (c0_3 : Nat) (l0_3 : List Int) (r1 : List Int) (r2 : Int) (w : World) (hr0_3 : Kd.C (Kd.int .u8) w A0_3 l0_3.length l0_3) (hc0_3 : l0_3.length ≤ c0_3) (h : spec_EncodeIcmp.f k a0_0 a0_1 a0_2 l0_3 = some (r1, r2)) :
 Calls Try.prog 114 #[.agg #[.int .i64 a0_0, .int .i64 a0_1, .int .i64 a0_2, .slice A0_3 l0_3.length c0_3]] w fun e w' => ∃ v0_ : Value, e = .returned (.tuple #[v0_, .int .i64 r2]) ∧ Kd.R (Kd.int .u8) 5 w' w.heap.size (fun _ => True) v0_ r1 ∧ Below w.heap.size w w' := by
 have hu153 := Try.underlying153
 have HR0_3 := Aside0.mk hr0_3
 have HC0_3 := Aside0.mk hc0_3
 clear hr0_3 hc0_3
 have HB := Aside0.mk (Below.refl w.heap.size w)
 have H : ((spec_l01In.f a0_0 0 255).bind fun t219 => (if t219 = true then ((spec_l01In.f a0_1 0 255).bind fun t220 => (if t220 = true then ((spec_l01In.f a0_2 0 4294967295).bind fun t221 => (spec_EncodeIcmp.j0 k (!t221) a0_0 a0_1 a0_2 l0_3)) else (spec_EncodeIcmp.j0 k true a0_0 a0_1 a0_2 l0_3))) else (spec_EncodeIcmp.j0 k true a0_0 a0_1 a0_2 l0_3))) = some (r1, r2) := h
 clear h
 have HC2 := Aside0.mk H
 clear H
 go_enter Try.func114, Try.ntmps114
 go_upto_region 1 with (first | ((with_reducible refine gate_dst (N := 1) rfl ?_); refine box_event ?hg (N := 1) ?hd (cs := #[.int .i64 a0_0, .int .i64 a0_1, .int .i64 a0_2, .slice A0_3 l0_3.length c0_3]) (t := 153) ?hr ?_; (case hd => rfl); (case hg => rfl); (case hr => first | (go_simp; done) | (go_simp; rfl)); intro gb218 hg w1001 hbox hb; have n0_ := Aside0.mk (below_step wB hb); have n1_ := Aside0.mk (hbox); have n2_ := Aside0.mk ((by rw [hg]; exact (below_size wB) : w.heap.size ≤ gb218)); have n3_ := Aside0.mk ((by rw [hg]; exact (below_size wB) : w.heap.size ≤ gb218)); clear HB; have HB := n0_; have BK218 := n1_; have GW218 := n2_; have GE218 := n3_; clear n0_ n1_ n2_ n3_; clear hb hbox hg))
 (try simp only [Act.put, List.setIfInBounds_toArray, List.set_cons_zero, List.set_cons_succ])
 go_cut [21] (fun v21 wc => ∃ (kq : Nat) (x21_1 : Bool), v21 = .bool x21_1 ∧ Aside0 (spec_EncodeIcmp.j0 kq x21_1 a0_0 a0_1 a0_2 l0_3 = some (r1, r2)) ∧ Aside0 (kq ≤ k) ∧ Aside0 (wc.heap[gb218]? = some (.cells #[.int .i64 a0_0, .int .i64 a0_1, .int .i64 a0_2, (.slice A0_3 l0_3.length c0_3)] 153 (0, 0))) ∧ Aside0 (Below w.heap.size w wc))
 case first => (
 have H := HC2.out
 clear HC2
 replace H := Option.bind_eq_some_iff.mp H
 obtain ⟨t219, A10020, H⟩ := H
 replace H : (if t219 = true then ((spec_l01In.f a0_1 0 255).bind fun t220 => (if t220 = true then ((spec_l01In.f a0_2 0 4294967295).bind fun t221 => (spec_EncodeIcmp.j0 k (!t221) a0_0 a0_1 a0_2 l0_3)) else (spec_EncodeIcmp.j0 k true a0_0 a0_1 a0_2 l0_3))) else (spec_EncodeIcmp.j0 k true a0_0 a0_1 a0_2 l0_3)) = some (r1, r2) := H
 have A1002 := Aside0.mk A10020
 clear A10020
 by_cases c1003 : t219 = true
 subst c1003
 have H1 : ((spec_l01In.f a0_1 0 255).bind fun t220 => (if t220 = true then ((spec_l01In.f a0_2 0 4294967295).bind fun t221 => (spec_EncodeIcmp.j0 k (!t221) a0_0 a0_1 a0_2 l0_3)) else (spec_EncodeIcmp.j0 k true a0_0 a0_1 a0_2 l0_3))) = some (r1, r2) := by rw [if_pos rfl] at H; exact H
 clear H
 have H := H1
 clear H1
 replace H := Option.bind_eq_some_iff.mp H
 obtain ⟨t220, A10040, H⟩ := H
 replace H : (if t220 = true then ((spec_l01In.f a0_2 0 4294967295).bind fun t221 => (spec_EncodeIcmp.j0 k (!t221) a0_0 a0_1 a0_2 l0_3)) else (spec_EncodeIcmp.j0 k true a0_0 a0_1 a0_2 l0_3)) = some (r1, r2) := H
 have A1004 := Aside0.mk A10040
 clear A10040
 by_cases c1005 : t220 = true
 subst c1005
 have H1 : ((spec_l01In.f a0_2 0 4294967295).bind fun t221 => (spec_EncodeIcmp.j0 k (!t221) a0_0 a0_1 a0_2 l0_3)) = some (r1, r2) := by rw [if_pos rfl] at H; exact H
 clear H
 have H := H1
 clear H1
 replace H := Option.bind_eq_some_iff.mp H
 obtain ⟨t221, A10060, H⟩ := H
 replace H : (spec_EncodeIcmp.j0 k (!t221) a0_0 a0_1 a0_2 l0_3) = some (r1, r2) := H
 have A1006 := Aside0.mk A10060
 clear A10060
 have H' := Aside0.mk H
 clear H
 rotate_left
 replace c1005 := Bool.eq_false_iff.mpr c1005
 subst c1005
 have H1 : (spec_EncodeIcmp.j0 k true a0_0 a0_1 a0_2 l0_3) = some (r1, r2) := by rw [if_neg (show ¬ (false = true) by decide)] at H; exact H
 clear H
 have H := H1
 clear H1
 have H' := Aside0.mk H
 clear H
 rotate_left
 replace c1003 := Bool.eq_false_iff.mpr c1003
 subst c1003
 have H1 : (spec_EncodeIcmp.j0 k true a0_0 a0_1 a0_2 l0_3) = some (r1, r2) := by rw [if_neg (show ¬ (false = true) by decide)] at H; exact H
 clear H
 have H := H1
 clear H1
 have H' := Aside0.mk H
 clear H
 rotate_left
 all_goals (
 obtain ⟨⟨hcz2001_0, hcz2001_1, hcz2001_2, hcz2001_3⟩, hfz2001_0, hfz2001_1, hfz2001_2, hfz2001_3⟩ := cells4 BK218.out
 go_wp2_with (first | ((with_reducible refine gate_callee (f := 73) rfl ?_); refine goesL_ (some 8) rfl rfl Try.func73 (by kernel_rfl) rfl #[.int .i64 a0_0, .int .i64 0, .int .i64 255] rfl wT ?_; (with_reducible refine (spec_l01In.calls a0_0 0 255 _ _ A1002.out).mono ?_); rintro e w' ⟨rfl, ⟨nd, rfl⟩⟩; refine ⟨_, rfl, ?_⟩) | (go_at_call 73; (with_reducible refine (spec_l01In.calls a0_1 0 255 _ _ A1004.out).mono ?_); rintro e w' ⟨rfl, ⟨nd, rfl⟩⟩) | (go_at_call 73; (with_reducible refine (spec_l01In.calls a0_2 0 4294967295 t221 _ A1006.out).mono ?_); rintro e w' ⟨rfl, ⟨nd, rfl⟩⟩))
 go_meet
 )
 {
 case rel => exact ⟨_, (!t221), (by first | rfl | (simp; done) | (simp [*]; done)), H', ⟨by first | omega | exact Nat.le_refl _⟩, ⟨Bh BK218⟩, ⟨wB⟩⟩
 }
 all_goals (
 case rel => exact ⟨_, (true), (by first | rfl | (simp; done) | (simp [*]; done)), H', ⟨by first | omega | exact Nat.le_refl _⟩, ⟨Bh BK218⟩, ⟨wB⟩⟩
 )
 )
 case rest => (
 clear HC2
 try clear c0
 try clear c1003
 try clear c1005
 try clear hcz2001_0 hcz2001_1 hcz2001_2 hcz2001_3 hfz2001_0 hfz2001_1 hfz2001_2 hfz2001_3
 obtain ⟨kq, x21_1, rfl, HA, HJ1, BK218, HB⟩ := hcut
 cases kq with
 | zero => exact absurd HA.out (by simp [spec_EncodeIcmp.j0])
 | succ kj1 => {
 have H := HA.out
 clear HA
 simp only [spec_EncodeIcmp.j0] at H
 by_cases c1007 : x21_1 = true
 {
 subst c1007
 have H1 : (some (([] : List Int), 1)) = some (r1, r2) := by rw [if_pos rfl] at H; exact H
 clear H
 have H := H1
 clear H1
 simp only [Option.some.injEq, Prod.mk.injEq] at H
 obtain ⟨rfl, rfl⟩ := H
 go_wp2
 go_ret2
 exact ⟨_, by first | rfl | (simp [errW_none, errW_some] <;> rfl) | (simp [*, errW_none, errW_some] <;> rfl), by first | exact Kd.R_nil _ _ _ _ _ | exact Kd.N_nil _ _ _ _ _ | exact Kd.V_nil _ _ _ _ _ | exact Kd.Q_nil _ _ _ _ _ | exact Kd.S_nil _ _ _ _ _, wB⟩
 }
 {
 replace c1007 := Bool.eq_false_iff.mpr c1007
 subst c1007
 have H1 : (if (l0_3.length : Int) > 65000 then (some (([] : List Int), 7)) else ((spec_l03Put.f kj1 a0_2 4).bind fun t225 => ((spec_l01Join.f kj1 (([(a0_0) % 256, (a0_1) % 256, 0, 0] : List Int)) t225).bind fun t228 => ((spec_l01Join.f kj1 t228 l0_3).bind fun t231 => ((spec_Checksum.f kj1 t231).bind fun t234 => (if 2 < (t231.length : Int) then (if 3 < (t231.length : Int) then (some (((t231.set (2 : Int).toNat ((t234 / 256) % 256)).set (3 : Int).toNat ((t234) % 256)), 0)) else (none)) else (none))))))) = some (r1, r2) := by rw [if_neg (show ¬ (false = true) by decide)] at H; exact H
 clear H
 have H := H1
 clear H1
 by_cases c1008 : (l0_3.length : Int) > 65000
 {
 rw [if_pos c1008] at H
 have c1008b0 : decide (65000 < (l0_3.length : Int)) = true := decide_eq_true c1008
 have c1008b1 : decide (65000 < l0_3.length) = true := decide_eq_true (by omega)
 clear c1008
 simp only [Option.some.injEq, Prod.mk.injEq] at H
 obtain ⟨rfl, rfl⟩ := H
 obtain ⟨⟨hcz2001_0, hcz2001_1, hcz2001_2, hcz2001_3⟩, hfz2001_0, hfz2001_1, hfz2001_2, hfz2001_3⟩ := cells4 BK218.out
 go_wp2
 go_ret2
 exact ⟨_, by first | rfl | (simp [errW_none, errW_some] <;> rfl) | (simp [*, errW_none, errW_some] <;> rfl), by first | exact Kd.R_nil _ _ _ _ _ | exact Kd.N_nil _ _ _ _ _ | exact Kd.V_nil _ _ _ _ _ | exact Kd.Q_nil _ _ _ _ _ | exact Kd.S_nil _ _ _ _ _, wB⟩
 }
 {
 rw [if_neg c1008] at H
 have c1008b0 : decide (65000 < (l0_3.length : Int)) = false := decide_eq_false c1008
 have c1008b1 : decide (65000 < l0_3.length) = false := decide_eq_false (by omega)
 clear c1008
 obtain ⟨y222, hy222⟩ : ∃ y_ : List Int, y_ = (([(a0_0) % 256, (a0_1) % 256, 0, 0] : List Int)) := ⟨_, rfl⟩
 replace H : ((spec_l03Put.f kj1 a0_2 4).bind fun t225 => ((spec_l01Join.f kj1 y222 t225).bind fun t228 => ((spec_l01Join.f kj1 t228 l0_3).bind fun t231 => ((spec_Checksum.f kj1 t231).bind fun t234 => (if 2 < (t231.length : Int) then (if 3 < (t231.length : Int) then (some (((t231.set (2 : Int).toNat ((t234 / 256) % 256)).set (3 : Int).toNat ((t234) % 256)), 0)) else (none)) else (none)))))) = some (r1, r2) := by first | (rw [hy222]; with_reducible exact H) | (have H2_ := (Option.bind_some _ _).symm.trans H; rw [hy222]; with_reducible exact H2_) | (have H2_ := (Option.bind_some _ _).symm.trans H; with_reducible exact H2_) | with_reducible exact H | (rw [hy222]; exact H) | exact H
 have Ny222 := Aside0.mk hy222
 clear hy222
 replace H := Option.bind_eq_some_iff.mp H
 obtain ⟨t225, A10090, H⟩ := H
 replace H : ((spec_l01Join.f kj1 y222 t225).bind fun t228 => ((spec_l01Join.f kj1 t228 l0_3).bind fun t231 => ((spec_Checksum.f kj1 t231).bind fun t234 => (if 2 < (t231.length : Int) then (if 3 < (t231.length : Int) then (some (((t231.set (2 : Int).toNat ((t234 / 256) % 256)).set (3 : Int).toNat ((t234) % 256)), 0)) else (none)) else (none))))) = some (r1, r2) := H
 have A1009 := Aside0.mk A10090
 clear A10090
 replace H := Option.bind_eq_some_iff.mp H
 obtain ⟨t228, A10100, H⟩ := H
 replace H : ((spec_l01Join.f kj1 t228 l0_3).bind fun t231 => ((spec_Checksum.f kj1 t231).bind fun t234 => (if 2 < (t231.length : Int) then (if 3 < (t231.length : Int) then (some (((t231.set (2 : Int).toNat ((t234 / 256) % 256)).set (3 : Int).toNat ((t234) % 256)), 0)) else (none)) else (none)))) = some (r1, r2) := H
 have A1010 := Aside0.mk A10100
 clear A10100
 replace H := Option.bind_eq_some_iff.mp H
 obtain ⟨t231, A10110, H⟩ := H
 replace H : ((spec_Checksum.f kj1 t231).bind fun t234 => (if 2 < (t231.length : Int) then (if 3 < (t231.length : Int) then (some (((t231.set (2 : Int).toNat ((t234 / 256) % 256)).set (3 : Int).toNat ((t234) % 256)), 0)) else (none)) else (none))) = some (r1, r2) := H
 have A1011 := Aside0.mk A10110
 clear A10110
 replace H := Option.bind_eq_some_iff.mp H
 obtain ⟨t234, A10120, H⟩ := H
 replace H : (if 2 < (t231.length : Int) then (if 3 < (t231.length : Int) then (some (((t231.set (2 : Int).toNat ((t234 / 256) % 256)).set (3 : Int).toNat ((t234) % 256)), 0)) else (none)) else (none)) = some (r1, r2) := H
 have A1012 := Aside0.mk A10120
 clear A10120
 by_cases c1013 : 2 < (t231.length : Int)
 {
 rw [if_pos c1013] at H
 have c1013b0 : decide (2 < (t231.length : Int)) = true := decide_eq_true c1013
 have c1013b1 : decide (2 < t231.length) = true := decide_eq_true (by omega)
 clear c1013
 obtain ⟨y235, hy235⟩ : ∃ y_ : List Int, y_ = (t231.set (2 : Int).toNat ((t234 / 256) % 256)) := ⟨_, rfl⟩
 replace H : (if 3 < (t231.length : Int) then (some ((y235.set (3 : Int).toNat ((t234) % 256)), 0)) else (none)) = some (r1, r2) := by first | (rw [hy235]; with_reducible exact H) | (have H2_ := (Option.bind_some _ _).symm.trans H; rw [hy235]; with_reducible exact H2_) | (have H2_ := (Option.bind_some _ _).symm.trans H; with_reducible exact H2_) | with_reducible exact H | (rw [hy235]; exact H) | exact H
 have Ny235 := Aside0.mk hy235
 clear hy235
 by_cases c1015 : 3 < (t231.length : Int)
 {
 rw [if_pos c1015] at H
 have c1015b0 : decide (3 < (t231.length : Int)) = true := decide_eq_true c1015
 have c1015b1 : decide (3 < t231.length) = true := decide_eq_true (by omega)
 clear c1015
 obtain ⟨y236, hy236⟩ : ∃ y_ : List Int, y_ = (y235.set (3 : Int).toNat ((t234) % 256)) := ⟨_, rfl⟩
 replace H : (some (y236, 0)) = some (r1, r2) := by first | (rw [hy236]; with_reducible exact H) | (have H2_ := (Option.bind_some _ _).symm.trans H; rw [hy236]; with_reducible exact H2_) | (have H2_ := (Option.bind_some _ _).symm.trans H; with_reducible exact H2_) | with_reducible exact H | (rw [hy236]; exact H) | exact H
 have Ny236 := Aside0.mk hy236
 clear hy236
 simp only [Option.some.injEq, Prod.mk.injEq] at H
 obtain ⟨rfl, rfl⟩ := H
 obtain ⟨⟨hcz2001_0, hcz2001_1, hcz2001_2, hcz2001_3⟩, hfz2001_0, hfz2001_1, hfz2001_2, hfz2001_3⟩ := cells4 BK218.out
 try go_wp2
 have n0_ := Aside0.mk (blk_drew BK218.out)
 have n1_ := Aside0.mk (below_drew1 HB.out)
 clear BK218
 clear HB
 have BK218 := n0_
 have HB := n1_
 clear n0_ n1_
 refine start_ (n := 12) (S := fun w' => True) (ds := []) #[false, false, false, false, false, false, false, false, false, false, false, false] (by kernel_rfl) rfl rfl trivial (fun hHeld => ?_); refine with_tabW spec_EncodeIcmp.tab5 spec_EncodeIcmp.bits5 (fun HT_ HW_ => ?_)
 generalize wc.drew = w2002 at BK218 HB hHeld ⊢
 refine pure_ (i := 0) (N := some 26) (v := ?_) (a' := ?_) #[true, false, false, false, false, false, false, false, false, false, false, false] rfl rfl (any_of HT_.out (by kernel_rfl)) (fun _ _ _ h => h) (Or.inl ⟨by rfl, ?_⟩) ?_ ?_
 rotate_left
 {
 intro w'
 go_simp
 with_reducible rfl
 }
 rotate_left
 {
 simp only [Act.put, List.setIfInBounds_toArray, List.set_cons_zero, List.set_cons_succ, i64_w, i32_w]
 rfl
 }
 refine pure_ (i := 3) (N := some 29) (v := ?_) (a' := ?_) #[true, false, false, true, false, false, false, false, false, false, false, false] rfl rfl (any_of HT_.out (by kernel_rfl)) (fun _ _ _ h => h) (Or.inl ⟨by rfl, ?_⟩) ?_ ?_
 rotate_left
 {
 intro w'
 go_simp
 with_reducible rfl
 }
 rotate_left
 {
 simp only [Act.put, List.setIfInBounds_toArray, List.set_cons_zero, List.set_cons_succ, i64_w, i32_w]
 rfl
 }
 refine pure_ (i := 7) (N := some 33) (v := ?_) (a' := ?_) #[true, false, false, true, false, false, false, true, false, false, false, false] rfl rfl (any_of HT_.out (by kernel_rfl)) (fun _ _ _ h => h) (Or.inl ⟨by rfl, ?_⟩) ?_ ?_
 rotate_left
 {
 intro w'
 go_simp
 with_reducible rfl
 }
 rotate_left
 {
 simp only [Act.put, List.setIfInBounds_toArray, List.set_cons_zero, List.set_cons_succ, i64_w, i32_w]
 rfl
 }
 refine inv_at [1, 2, 4, 5, 6, 8, 9, 10, 11] (fun a0_ b a w' => ∃ (v223 : Value) (v226 : Value) (v229 : Value) (m11_ : Value), a = putSel a0_ b [(1, 27, .int .i64 a0_0), (2, 28, .int .u8 ((a0_0) % 256)), (4, 30, .int .i64 a0_1), (5, 31, .int .u8 ((a0_1) % 256)), (6, 32, v223), (8, 34, .int .i64 a0_2), (9, 35, v226), (10, 36, v229), (11, 4, m11_)] ∧ (w'.heap[gb218]? = some (.cells #[.int .i64 a0_0, .int .i64 a0_1, .int .i64 a0_2, .slice A0_3 l0_3.length c0_3] 153 (0, 0))) ∧ (Below w.heap.size w w') ∧ (b 6 = true → Kd.R (Kd.int .u8) 5 w' w.heap.size (fun _ => True) v223 y222) ∧ (b 9 = true → Kd.R (Kd.int .u8) 5 w' w.heap.size (fun _ => True) v226 t225) ∧ (b 10 = true → Kd.R (Kd.int .u8) 5 w' w.heap.size (fun _ => True) v229 t228) ∧ (b 11 = true → (m11_ : Value) = v229)) HT_.out HW_.out (by kernel_rfl) (by kernel_rfl) ?_ ?_ ?_
 {
 exact ⟨.bool false, .bool false, .bool false, .bool false, by simp only [putSel, Bool.false_eq_true, if_false], BK218.out, HB.out, fun h_ => absurd h_ (by decide), fun h_ => absurd h_ (by decide), fun h_ => absurd h_ (by decide), fun h_ => absurd h_ (by decide)⟩
 }
 {
 skip
 clear BK218 HB
 refine steps_cons ?_ ?_
 {
 rintro b a w' ⟨v223, v226, v229, m11_, ha, Q_BK218, Q_HB, Q_HO224, Q_HO227, Q_HO230, Q_X11_⟩ hb_ hon hoff
 refine ⟨_, rfl, fun K hK => ?_⟩
 have e26 : a.tmps[26]? = some (.pointer (some ⟨gb218, 0, none⟩)) := by rw [ha]; exact (putSel_off rfl).trans rfl
 replace ha := Aside0.mk ha
 have BK218 := Aside0.mk Q_BK218
 have HB := Aside0.mk Q_HB
 have hc0_ : w'.cell? ⟨gb218, 0, none⟩ = some (.int .i64 a0_0) := (blk_cell BK218.out 0).trans rfl
 have hc1_ : w'.cell? ⟨gb218, 1, none⟩ = some (.int .i64 a0_1) := (blk_cell BK218.out 1).trans rfl
 have hc2_ : w'.cell? ⟨gb218, 2, none⟩ = some (.int .i64 a0_2) := (blk_cell BK218.out 2).trans rfl
 have hc3_ : w'.cell? ⟨gb218, 3, none⟩ = some (.slice A0_3 l0_3.length c0_3) := (blk_cell BK218.out 3).trans rfl
 refine value_ (w1 := w') (v := .int .i64 a0_0) (by rfl) rfl ?_ ?_
 {
 go_simp
 (try simp only [i64_w])
 try rfl
 }
 refine hK.out _ _ ⟨v223, v226, v229, m11_, (by rw [ha.out]; exact putSel_upk 0 hb_ rfl rfl rfl), Q_BK218, Q_HB, fun h0_ => absurd ((hoff 6 (by kernel_rfl)).symm.trans h0_) (by decide), Q_HO227, fun h0_ => absurd ((hoff 10 (by kernel_rfl)).symm.trans h0_) (by decide), fun h0_ => absurd ((hoff 11 (by kernel_rfl)).symm.trans h0_) (by decide)⟩
 }
 refine steps_cons ?_ ?_
 {
 rintro b a w' ⟨v223, v226, v229, m11_, ha, Q_BK218, Q_HB, Q_HO224, Q_HO227, Q_HO230, Q_X11_⟩ hb_ hon hoff
 refine ⟨_, rfl, fun K hK => ?_⟩
 have e27 : a.tmps[27]? = some (.int .i64 a0_0) := by rw [ha]; exact putSel_on (e := (1, 27, .int .i64 a0_0)) 0 rfl rfl (hon 1 (by kernel_rfl)) rfl
 replace ha := Aside0.mk ha
 have BK218 := Aside0.mk Q_BK218
 have HB := Aside0.mk Q_HB
 refine value_ (w1 := w') (v := .int .u8 ((a0_0) % 256)) (by rfl) rfl ?_ ?_
 {
 go_simp
 (try simp only [i64_w])
 try rfl
 }
 refine hK.out _ _ ⟨v223, v226, v229, m11_, (by rw [ha.out]; exact putSel_upk 1 hb_ rfl rfl rfl), Q_BK218, Q_HB, fun h0_ => absurd ((hoff 6 (by kernel_rfl)).symm.trans h0_) (by decide), Q_HO227, fun h0_ => absurd ((hoff 10 (by kernel_rfl)).symm.trans h0_) (by decide), fun h0_ => absurd ((hoff 11 (by kernel_rfl)).symm.trans h0_) (by decide)⟩
 }
 refine steps_cons ?_ ?_
 {
 rintro b a w' ⟨v223, v226, v229, m11_, ha, Q_BK218, Q_HB, Q_HO224, Q_HO227, Q_HO230, Q_X11_⟩ hb_ hon hoff
 refine ⟨_, rfl, fun K hK => ?_⟩
 have e29 : a.tmps[29]? = some (.pointer (some ⟨gb218, 1, none⟩)) := by rw [ha]; exact (putSel_off rfl).trans rfl
 replace ha := Aside0.mk ha
 have BK218 := Aside0.mk Q_BK218
 have HB := Aside0.mk Q_HB
 have hc0_ : w'.cell? ⟨gb218, 0, none⟩ = some (.int .i64 a0_0) := (blk_cell BK218.out 0).trans rfl
 have hc1_ : w'.cell? ⟨gb218, 1, none⟩ = some (.int .i64 a0_1) := (blk_cell BK218.out 1).trans rfl
 have hc2_ : w'.cell? ⟨gb218, 2, none⟩ = some (.int .i64 a0_2) := (blk_cell BK218.out 2).trans rfl
 have hc3_ : w'.cell? ⟨gb218, 3, none⟩ = some (.slice A0_3 l0_3.length c0_3) := (blk_cell BK218.out 3).trans rfl
 refine value_ (w1 := w') (v := .int .i64 a0_1) (by rfl) rfl ?_ ?_
 {
 go_simp
 (try simp only [i64_w])
 try rfl
 }
 refine hK.out _ _ ⟨v223, v226, v229, m11_, (by rw [ha.out]; exact putSel_upk 2 hb_ rfl rfl rfl), Q_BK218, Q_HB, fun h0_ => absurd ((hoff 6 (by kernel_rfl)).symm.trans h0_) (by decide), Q_HO227, fun h0_ => absurd ((hoff 10 (by kernel_rfl)).symm.trans h0_) (by decide), fun h0_ => absurd ((hoff 11 (by kernel_rfl)).symm.trans h0_) (by decide)⟩
 }
 refine steps_cons ?_ ?_
 {
 rintro b a w' ⟨v223, v226, v229, m11_, ha, Q_BK218, Q_HB, Q_HO224, Q_HO227, Q_HO230, Q_X11_⟩ hb_ hon hoff
 refine ⟨_, rfl, fun K hK => ?_⟩
 have e30 : a.tmps[30]? = some (.int .i64 a0_1) := by rw [ha]; exact putSel_on (e := (4, 30, .int .i64 a0_1)) 2 rfl rfl (hon 4 (by kernel_rfl)) rfl
 replace ha := Aside0.mk ha
 have BK218 := Aside0.mk Q_BK218
 have HB := Aside0.mk Q_HB
 refine value_ (w1 := w') (v := .int .u8 ((a0_1) % 256)) (by rfl) rfl ?_ ?_
 {
 go_simp
 (try simp only [i64_w])
 try rfl
 }
 refine hK.out _ _ ⟨v223, v226, v229, m11_, (by rw [ha.out]; exact putSel_upk 3 hb_ rfl rfl rfl), Q_BK218, Q_HB, fun h0_ => absurd ((hoff 6 (by kernel_rfl)).symm.trans h0_) (by decide), Q_HO227, fun h0_ => absurd ((hoff 10 (by kernel_rfl)).symm.trans h0_) (by decide), fun h0_ => absurd ((hoff 11 (by kernel_rfl)).symm.trans h0_) (by decide)⟩
 }
 refine steps_cons ?_ ?_
 {
 rintro b a w' ⟨v223, v226, v229, m11_, ha, Q_BK218, Q_HB, Q_HO224, Q_HO227, Q_HO230, Q_X11_⟩ hb_ hon hoff
 refine ⟨_, rfl, fun K hK => ?_⟩
 have e28 : a.tmps[28]? = some (.int .u8 ((a0_0) % 256)) := by rw [ha]; exact putSel_on (e := (2, 28, .int .u8 ((a0_0) % 256))) 1 rfl rfl (hon 2 (by kernel_rfl)) rfl
 have e31 : a.tmps[31]? = some (.int .u8 ((a0_1) % 256)) := by rw [ha]; exact putSel_on (e := (5, 31, .int .u8 ((a0_1) % 256))) 3 rfl rfl (hon 5 (by kernel_rfl)) rfl
 replace ha := Aside0.mk ha
 have BK218 := Aside0.mk Q_BK218
 have HB := Aside0.mk Q_HB
 refine Kd.R_lit_step (Kd.int .u8) _ 5 ?hg (N := 32) ?hd (xs := ([(a0_0) % 256, (a0_1) % 256, 0, 0] : List Int)) (inner := [.int .u8 ((a0_0) % 256), .int .u8 ((a0_1) % 256), .int .u8 0, .int .u8 0]) (ok := fun _ => True) (okp := fun _ => True) ?hr ?hp (fun _ hk => hk) trivial (Below.refl _ _) (Nat.le_refl _) (by simp) ?_; (case hd => rfl); (case hg => rfl); (case hr => first | (go_simp; done) | (go_simp; rfl)); (case hp => exact (Reps.one (show Kd.M (Kd.int .u8) _ _ _ ((a0_0) % 256) [.int .u8 ((a0_0) % 256)] from rfl) (Reps.one (show Kd.M (Kd.int .u8) _ _ _ ((a0_1) % 256) [.int .u8 ((a0_1) % 256)] from rfl) (Reps.one (show Kd.M (Kd.int .u8) _ _ _ 0 [.int .u8 0] from rfl) (Reps.one (show Kd.M (Kd.int .u8) _ _ _ 0 [.int .u8 0] from rfl) (Reps.none _ _))))))
 intro v223 w2003 ho2004 hb hg_ hnew_
 clear hg_ hnew_
 (first | rw [← Ny222.out] at ho2004 | (simp only [Int.reduceToNat] at ho2004; rw [← Ny222.out] at ho2004))
 have n0_ := Aside0.mk (Kd.R_lower ho2004 (below_size wB))
 have n1_ := Aside0.mk (blk_below (Bh BK218) hb)
 have n2_ := Aside0.mk (below_step wB hb)
 have z_HO227 := fun (h0_ : b 9 = true) => (show Kd.R (Kd.int .u8) 5 w2003 w.heap.size (fun _ => True) v226 t225 from by first | exact (Kd.R_elder' (by (with_reducible repeat (first | apply Kd.R_alloc | apply Kd.R_drewN | apply Kd.R_drew)); exact (Q_HO227 h0_)) (Kd.R_base ho2004) hb) | exact Kd.R_mono (Kd.R_elder' (by (with_reducible repeat (first | apply Kd.R_alloc | apply Kd.R_drewN | apply Kd.R_drew)); exact (Q_HO227 h0_)) (Kd.R_base ho2004) hb) (fun _ h_ => by first | trivial | exact h_ | exact h_.1))
 clear BK218
 clear HB
 have HO224 := n0_
 have BK218 := n1_
 have HB := n2_
 clear n0_ n1_ n2_
 clear hb ho2004
 refine hK.out _ _ ⟨v223, v226, v229, m11_, (by rw [ha.out]; exact putSel_upk 4 hb_ rfl rfl rfl), (Bh BK218), wB, fun _ => (by (with_reducible repeat (first | apply Kd.R_alloc | apply Kd.R_drewN | apply Kd.R_drew)); first | exact HO224.out | exact Kd.R_mono HO224.out (fun _ hk => by first | trivial | exact hk.1 | exact hk.2)), z_HO227, fun h0_ => absurd ((hoff 10 (by kernel_rfl)).symm.trans h0_) (by decide), fun h0_ => absurd ((hoff 11 (by kernel_rfl)).symm.trans h0_) (by decide)⟩
 }
 refine steps_cons ?_ ?_
 {
 rintro b a w' ⟨v223, v226, v229, m11_, ha, Q_BK218, Q_HB, Q_HO224, Q_HO227, Q_HO230, Q_X11_⟩ hb_ hon hoff
 refine ⟨_, rfl, fun K hK => ?_⟩
 have e33 : a.tmps[33]? = some (.pointer (some ⟨gb218, 2, none⟩)) := by rw [ha]; exact (putSel_off rfl).trans rfl
 replace ha := Aside0.mk ha
 have BK218 := Aside0.mk Q_BK218
 have HB := Aside0.mk Q_HB
 have hc0_ : w'.cell? ⟨gb218, 0, none⟩ = some (.int .i64 a0_0) := (blk_cell BK218.out 0).trans rfl
 have hc1_ : w'.cell? ⟨gb218, 1, none⟩ = some (.int .i64 a0_1) := (blk_cell BK218.out 1).trans rfl
 have hc2_ : w'.cell? ⟨gb218, 2, none⟩ = some (.int .i64 a0_2) := (blk_cell BK218.out 2).trans rfl
 have hc3_ : w'.cell? ⟨gb218, 3, none⟩ = some (.slice A0_3 l0_3.length c0_3) := (blk_cell BK218.out 3).trans rfl
 refine value_ (w1 := w') (v := .int .i64 a0_2) (by rfl) rfl ?_ ?_
 {
 go_simp
 (try simp only [i64_w])
 try rfl
 }
 refine hK.out _ _ ⟨v223, v226, v229, m11_, (by rw [ha.out]; exact putSel_upk 5 hb_ rfl rfl rfl), Q_BK218, Q_HB, Q_HO224, fun h0_ => absurd ((hoff 9 (by kernel_rfl)).symm.trans h0_) (by decide), fun h0_ => absurd ((hoff 10 (by kernel_rfl)).symm.trans h0_) (by decide), fun h0_ => absurd ((hoff 11 (by kernel_rfl)).symm.trans h0_) (by decide)⟩
 }
 refine steps_cons ?_ ?_
 {
 rintro b a w' ⟨v223, v226, v229, m11_, ha, Q_BK218, Q_HB, Q_HO224, Q_HO227, Q_HO230, Q_X11_⟩ hb_ hon hoff
 refine ⟨_, rfl, fun K hK => ?_⟩
 have e34 : a.tmps[34]? = some (.int .i64 a0_2) := by rw [ha]; exact putSel_on (e := (8, 34, .int .i64 a0_2)) 5 rfl rfl (hon 8 (by kernel_rfl)) rfl
 replace ha := Aside0.mk ha
 have BK218 := Aside0.mk Q_BK218
 have HB := Aside0.mk Q_HB
 refine goes_ Try.func146 (by kernel_rfl) rfl #[.int .i64 a0_2, .int .i64 4] (by rfl) rfl rfl (by first | (simp only [List.map_toArray, List.map_cons, List.map_nil, Act.eval, Array.getD_eq_getD_getElem?, Option.getD_some, e34]; done) | (simp only [List.map_toArray, List.map_cons, List.map_nil, Act.eval, Array.getD_eq_getD_getElem?, Option.getD_some, e34]; rfl)) ?_
 with_reducible refine (spec_l03Put.calls kj1 a0_2 4 t225 _ A1009.out).mono ?_
 rintro e w2003 ⟨v226, rfl, ho0, hb⟩
 refine ⟨_, rfl, ?_⟩
 have n0_ := Aside0.mk (Kd.R_lower ho0 (below_size wB))
 have n1_ := Aside0.mk (blk_below (Bh BK218) hb)
 have n2_ := Aside0.mk (below_step wB hb)
 have z_HO224 := fun (h0_ : b 6 = true) => (show Kd.R (Kd.int .u8) 5 w2003 w.heap.size (fun _ => True) v223 y222 from by first | exact (Kd.R_elder' (by (with_reducible repeat (first | apply Kd.R_alloc | apply Kd.R_drewN | apply Kd.R_drew)); exact (Q_HO224 h0_)) (Kd.R_base ho0) hb) | exact Kd.R_mono (Kd.R_elder' (by (with_reducible repeat (first | apply Kd.R_alloc | apply Kd.R_drewN | apply Kd.R_drew)); exact (Q_HO224 h0_)) (Kd.R_base ho0) hb) (fun _ h_ => by first | trivial | exact h_ | exact h_.1))
 clear BK218
 clear HB
 have HO227 := n0_
 have BK218 := n1_
 have HB := n2_
 clear n0_ n1_ n2_
 (try clear hb)
 (try clear hb2)
 (try clear hk)
 (try clear hi)
 (try clear ho0)
 refine hK.out _ _ ⟨v223, v226, v229, m11_, (by rw [ha.out]; exact putSel_upk 6 hb_ rfl rfl rfl), (Bh BK218), wB, z_HO224, fun _ => (by (with_reducible repeat (first | apply Kd.R_alloc | apply Kd.R_drewN | apply Kd.R_drew)); first | exact HO227.out | exact Kd.R_mono HO227.out (fun _ hk => by first | trivial | exact hk.1 | exact hk.2)), fun h0_ => absurd ((hoff 10 (by kernel_rfl)).symm.trans h0_) (by decide), fun h0_ => absurd ((hoff 11 (by kernel_rfl)).symm.trans h0_) (by decide)⟩
 }
 refine steps_cons ?_ ?_
 {
 rintro b a w' ⟨v223, v226, v229, m11_, ha, Q_BK218, Q_HB, Q_HO224, Q_HO227, Q_HO230, Q_X11_⟩ hb_ hon hoff
 refine ⟨_, rfl, fun K hK => ?_⟩
 have e32 : a.tmps[32]? = some (v223) := by rw [ha]; exact putSel_on (e := (6, 32, v223)) 4 rfl rfl (hon 6 (by kernel_rfl)) rfl
 have e35 : a.tmps[35]? = some (v226) := by rw [ha]; exact putSel_on (e := (9, 35, v226)) 6 rfl rfl (hon 9 (by kernel_rfl)) rfl
 replace ha := Aside0.mk ha
 have BK218 := Aside0.mk Q_BK218
 have HB := Aside0.mk Q_HB
 have HO224 := Aside0.mk (Q_HO224 (hon 6 (by kernel_rfl)))
 have HO227 := Aside0.mk (Q_HO227 (hon 9 (by kernel_rfl)))
 obtain ⟨Ao2007, co2007, eo2007⟩ := Kd.R_slice HO224.out
 (first | subst eo2007 | (injection eo2007 with f1_ f2_ f3_; have f4_ := f1_.symm; have f5_ := f3_.symm; clear f1_ f2_ f3_; subst f4_; subst f5_))
 obtain ⟨Ao2008, co2008, eo2008⟩ := Kd.R_slice HO227.out
 (first | subst eo2008 | (injection eo2008 with f1_ f2_ f3_; have f4_ := f1_.symm; have f5_ := f3_.symm; clear f1_ f2_ f3_; subst f4_; subst f5_))
 refine goes_ Try.func144 (by kernel_rfl) rfl #[.slice Ao2007 y222.length co2007, .slice Ao2008 t225.length co2008] (by rfl) rfl rfl (by first | (simp only [List.map_toArray, List.map_cons, List.map_nil, Act.eval, Array.getD_eq_getD_getElem?, Option.getD_some, e32, e35]; done) | (simp only [List.map_toArray, List.map_cons, List.map_nil, Act.eval, Array.getD_eq_getD_getElem?, Option.getD_some, e32, e35]; rfl)) ?_
 with_reducible refine (spec_l01Join.calls kj1 _ _ y222 _ _ t225 t228 _ ?side1 ?side2 ?side3 ?side4 A1010.out).mono ?_
 (case side1 => exact Ch HO224)
 (case side2 => exact (Kd.R_reads' HO224.out).2.1)
 (case side3 => exact Ch HO227)
 (case side4 => exact (Kd.R_reads' HO227.out).2.1)
 rintro e w2009 ⟨v229, rfl, ho0, hb⟩
 refine ⟨_, rfl, ?_⟩
 have n0_ := Aside0.mk (Kd.R_elder' (Rh HO224) (Kd.R_base ho0) hb)
 have n1_ := Aside0.mk (Kd.R_elder' (Rh HO227) (Kd.R_base ho0) hb)
 have n2_ := Aside0.mk (Kd.R_lower (Kd.R_new' (Kd.R_new' ho0 (Kd.R_lt (Rh HO224))) (Kd.R_lt (Rh HO227))) (below_size wB))
 have n3_ := Aside0.mk (blk_below (Bh BK218) hb)
 have n4_ := Aside0.mk (below_step wB hb)
 clear HO224
 clear HO227
 clear BK218
 clear HB
 have HO224 := n0_
 have HO227 := n1_
 have HO230 := n2_
 have BK218 := n3_
 have HB := n4_
 clear n0_ n1_ n2_ n3_ n4_
 (try clear hb)
 (try clear hb2)
 (try clear hk)
 (try clear hi)
 (try clear ho0)
 refine hK.out _ _ ⟨.slice Ao2007 y222.length co2007, .slice Ao2008 t225.length co2008, v229, m11_, (by rw [ha.out]; exact putSel_upk 7 hb_ rfl rfl rfl), (Bh BK218), wB, fun _ => (by (with_reducible repeat (first | apply Kd.R_alloc | apply Kd.R_drewN | apply Kd.R_drew)); first | exact HO224.out | exact Kd.R_mono HO224.out (fun _ hk => by first | trivial | exact hk.1 | exact hk.2)), fun _ => (by (with_reducible repeat (first | apply Kd.R_alloc | apply Kd.R_drewN | apply Kd.R_drew)); first | exact HO227.out | exact Kd.R_mono HO227.out (fun _ hk => by first | trivial | exact hk.1 | exact hk.2)), fun _ => (Kd.R_mono (Rh HO230) (fun _ hk => by first | exact ⟨hk.1.2, hk.2⟩ | trivial | exact hk.1 | exact hk.2)), fun h0_ => absurd ((hoff 11 (by kernel_rfl)).symm.trans h0_) (by decide)⟩
 }
 refine steps_cons ?_ ?_
 {
 rintro b a w' ⟨v223, v226, v229, m11_, ha, Q_BK218, Q_HB, Q_HO224, Q_HO227, Q_HO230, Q_X11_⟩ hb_ hon hoff
 refine ⟨_, rfl, fun K hK => ?_⟩
 have e36 : a.tmps[36]? = some (v229) := by rw [ha]; exact putSel_on (e := (10, 36, v229)) 7 rfl rfl (hon 10 (by kernel_rfl)) rfl
 replace ha := Aside0.mk ha
 have BK218 := Aside0.mk Q_BK218
 have HB := Aside0.mk Q_HB
 have HO224 := Aside0.mk (Q_HO224 (hon 6 (by kernel_rfl)))
 have HO227 := Aside0.mk (Q_HO227 (hon 9 (by kernel_rfl)))
 have HO230 := Aside0.mk (Q_HO230 (hon 10 (by kernel_rfl)))
 refine value_ (w1 := w') (v := v229) (by rfl) rfl ?_ ?_
 {
 go_simp
 (try simp only [i64_w])
 try rfl
 }
 refine hK.out _ _ ⟨v223, v226, v229, (v229), (by rw [ha.out]; exact putSel_upk 8 hb_ rfl rfl rfl), Q_BK218, Q_HB, Q_HO224, Q_HO227, Q_HO230, fun _ => rfl⟩
 }
 exact steps_nil
 }
 rintro b a w2009 hall ⟨v223, v226, v229, m11_, ha, Q_BK218, Q_HB, Q_HO224, Q_HO227, Q_HO230, Q_X11_⟩
 clear BK218 HB
 have hb1_ := hall 1 (by kernel_rfl)
 have hb2_ := hall 2 (by kernel_rfl)
 have hb4_ := hall 4 (by kernel_rfl)
 have hb5_ := hall 5 (by kernel_rfl)
 have hb6_ := hall 6 (by kernel_rfl)
 have hb8_ := hall 8 (by kernel_rfl)
 have hb9_ := hall 9 (by kernel_rfl)
 have hb10_ := hall 10 (by kernel_rfl)
 have hb11_ := hall 11 (by kernel_rfl)
 subst ha
 obtain rfl := Q_X11_ hb11_
 simp only [putSel, hb1_, hb2_, hb4_, hb5_, hb6_, hb8_, hb9_, hb10_, hb11_, if_true, Act.put, List.setIfInBounds_toArray, List.set_cons_zero, List.set_cons_succ]
 have BK218 := Aside0.mk Q_BK218
 clear Q_BK218
 have HB := Aside0.mk Q_HB
 clear Q_HB
 have HO224 := Aside0.mk (Q_HO224 hb6_)
 clear Q_HO224
 have HO227 := Aside0.mk (Q_HO227 hb9_)
 clear Q_HO227
 have HO230 := Aside0.mk (Q_HO230 hb10_)
 clear Q_HO230
 clear hall hb1_ hb2_ hb4_ hb5_ hb6_ hb8_ hb9_ hb10_ hb11_
 obtain ⟨⟨hcz2010_0, hcz2010_1, hcz2010_2, hcz2010_3⟩, hfz2010_0, hfz2010_1, hfz2010_2, hfz2010_3⟩ := cells4 BK218.out
 have n_ := Aside0.mk (Kd.R_mono (ok' := (fun _ => True)) HO230.out (fun k_ hk => trivial))
 clear HO230
 have HO230 := n_
 clear n_
 (try clear HO224)
 (try clear HO227)
 obtain ⟨Ao2011, co2011, eo2011⟩ := Kd.R_slice HO230.out
 subst eo2011
 try go_wp2_with (first | ((with_reducible refine gate_callee (f := 144) rfl ?_); refine goesL_ (some 40) rfl rfl Try.func144 (by kernel_rfl) rfl #[.slice Ao2011 t228.length co2011, .slice A0_3 l0_3.length c0_3] rfl wT ?_; (with_reducible refine (spec_l01Join.calls kj1 _ _ t228 _ _ l0_3 t231 _ ?side1 ?side2 ?side3 ?side4 A1011.out).mono ?_); (case side1 => exact Ch HO230); (case side2 => exact (Kd.R_reads' HO230.out).2.1); (case side3 => exact Kd.C_below HR0_3.out wB); (case side4 => exact HC0_3.out); rintro e w2012 ⟨v232, rfl, ho0, hb⟩; refine ⟨_, rfl, ?_⟩; have n0_ := Aside0.mk (Kd.R_elder' (Rh HO230) (Kd.R_base ho0) hb); have n1_ := Aside0.mk (Kd.R_lower (Kd.R_new' ho0 (Kd.R_lt (Rh HO230))) (below_size wB)); have n2_ := Aside0.mk (blk_below (Bh BK218) hb); have n3_ := Aside0.mk (below_step wB hb); clear HO230; clear BK218; clear HB; have HO230 := n0_; have HO233 := n1_; have BK218 := n2_; have HB := n3_; clear n0_ n1_ n2_ n3_; (try clear hb); (try clear hb2); (try clear hk); (try clear hi); (try clear ho0); have n_ := Aside0.mk (Kd.R_mono (ok' := (fun _ => True)) HO233.out (fun k_ hk => trivial)); clear HO233; have HO233 := n_; clear n_; (try clear HO230); obtain ⟨Ao2013, co2013, eo2013⟩ := Kd.R_slice HO233.out; subst eo2013) | ((with_reducible refine gate_callee (f := 131) rfl ?_); refine goesL_ (some 42) rfl rfl Try.func131 (by kernel_rfl) rfl #[.slice Ao2013 t231.length co2013] rfl wT ?_; (with_reducible refine (spec_Checksum.calls kj1 _ _ t231 t234 _ ?side1 ?side2 A1012.out).mono ?_); (case side1 => exact Ch HO233); (case side2 => exact (Kd.R_reads' HO233.out).2.1); rintro e w' ⟨rfl, ⟨nd, rfl⟩⟩; refine ⟨_, rfl, ?_⟩; (try (rw [drewN_self w2012]; generalize hq_ : World.drewN w2012 _ = w2012; have n0_ := Aside0.mk (Kd.R_at hq_ HO233.out); have n1_ := Aside0.mk (blk_at hq_ BK218.out); have n2_ := Aside0.mk (below_at hq_ HB.out); clear hq_ HO233 BK218 HB; have HO233 := n0_; have BK218 := n1_; have HB := n2_; clear n0_ n1_ n2_; (try (obtain ⟨⟨hcyBK218_0, hcyBK218_1, hcyBK218_2, hcyBK218_3⟩, hfyBK218_0, hfyBK218_1, hfyBK218_2, hfyBK218_3⟩ := cells4 BK218.out)))); have p1014 : 0 ≤ (2 : Int) := (by omega); have q1014 : (2 : Int) < ((t231.length : Int) : Int) := of_decide_eq_true (by first | (with_reducible assumption) | assumption); have qi1014 : (2 < t231.length) = True := eq_true (by omega); obtain ⟨go1014, co1014, eo1014, gb1014, gl1014, cl1014, HG1014⟩ := Kd.R_form HO233.out (by omega); (first | cases eo1014 | (injection eo1014 with ea_ en_ ec_; (first | subst ea_ | (injection ea_ with ea_; subst ea_)); subst ec_; clear en_)); have GB1014 := Aside0.mk gb1014; have GG1014 := Aside0.mk HG1014; clear gb1014 gl1014 HG1014; obtain ⟨hx1014_0, hf1014_0⟩ := Kd.R_celln 0 HO233.out (2 : Int) p1014 q1014; (try rw [show ((2 : Int)).toNat = 2 from rfl] at hx1014_0); (try simp only [Nat.reduceMul, Nat.zero_mul, Nat.zero_add, Nat.reduceAdd] at hx1014_0); (try rw [show ((2 : Int)).toNat = 2 from rfl] at hf1014_0); (try simp only [Nat.reduceMul, Nat.zero_mul, Nat.zero_add, Nat.reduceAdd] at hf1014_0); replace p1014 := eq_true p1014; replace q1014 := eq_true q1014; obtain ⟨hy2014_, hz2014_⟩ := Kd.R_celln 0 HO233.out (2 : Int) (by omega) (of_decide_eq_true (by first | (with_reducible assumption) | assumption)); (try simp only [Int.reduceToNat, Int.toNat_zero, Int.toNat_ofNat, Nat.reduceMul, Nat.zero_mul, Nat.zero_add] at hy2014_ hz2014_); (try rw [show ((2 : Int)).toNat = 2 from rfl] at hy2014_); (try rw [show ((2 : Int)).toNat = 2 from rfl] at hz2014_); have HP2014 := Kd.R_putg HO233.out (2 : Int) ((t234 / 256) % 256)) | ((with_reducible refine gate_store (t := 5) (p := 47) rfl ?_); (try (rw [drewN_self w2012]; generalize hq_ : World.drewN w2012 _ = w2012; have n0_ := Aside0.mk (Kd.R_at hq_ HO233.out); have n1_ := Aside0.mk (blk_at hq_ BK218.out); have n2_ := Aside0.mk (below_at hq_ HB.out); clear hq_ HO233 BK218 HB; have HO233 := n0_; have BK218 := n1_; have HB := n2_; clear n0_ n1_ n2_; (try (obtain ⟨⟨hcyBK218_0, hcyBK218_1, hcyBK218_2, hcyBK218_3⟩, hfyBK218_0, hfyBK218_1, hfyBK218_2, hfyBK218_3⟩ := cells4 BK218.out)); (try (obtain ⟨hy2014_, hz2014_⟩ := Kd.R_celln 0 HO233.out (2 : Int) (by omega) (of_decide_eq_true (by first | (with_reducible assumption) | assumption)))); (try (try simp only [Int.reduceToNat, Int.toNat_zero, Int.toNat_ofNat, Nat.reduceMul, Nat.zero_mul, Nat.zero_add] at hy2014_ hz2014_)); (try (try rw [show ((2 : Int)).toNat = 2 from rfl] at hy2014_)); (try (try rw [show ((2 : Int)).toNat = 2 from rfl] at hz2014_)); (try (have HP2014 := Kd.R_putg HO233.out (2 : Int) ((t234 / 256) % 256))))); refine store_event (t := 5) (p := 47) (v := ?_) (w1 := (w2012.setCell ⟨go1014, (2 : Int).toNat, none⟩ (.int .u8 ((t234 / 256) % 256)))) ?hg ?ho ?hn ?hr ?_; (case ho => rfl); (case hg => rfl); (case hn => rfl); (case hr => first | (go_simp; done) | (go_simp; rfl)); intro w2015 hw; have hg : w2012.grownBy w2015 (some go1014) := (by rw [hw]; exact HP2014.2); have hp_ : Kd.R (Kd.int .u8) 5 w2015 w.heap.size (fun _ => True) (.slice (some ⟨go1014, 0, none⟩) t231.length co2013) y235 := (by rw [hw, Ny235.out]; exact HP2014.1); clear HP2014; have n0_ := Aside0.mk (blk_grown (Bh BK218) hg (Kd.R_ne HO233.out BK218.out (by decide))); have n1_ := Aside0.mk (hp_); have n2_ := Aside0.mk ((by rw [hw]; exact below_set (HB.out) GB1014.out : Below w.heap.size w w2015)); clear BK218; clear HO233; clear HB; have BK218 := n0_; have HO233 := n1_; have HB := n2_; clear n0_ n1_ n2_; clear hg hw hp_; have p1016 : 0 ≤ (3 : Int) := (by omega); have q1016 : (3 : Int) < ((t231.length : Int) : Int) := of_decide_eq_true (by first | (with_reducible assumption) | assumption); have qi1016 : (3 < t231.length) = True := eq_true (by omega); obtain ⟨hx1016_0, hf1016_0⟩ := Kd.R_celln 0 HO233.out (3 : Int) p1016 q1016; (try rw [show ((3 : Int)).toNat = 3 from rfl] at hx1016_0); (try simp only [Nat.reduceMul, Nat.zero_mul, Nat.zero_add, Nat.reduceAdd] at hx1016_0); (try rw [show ((3 : Int)).toNat = 3 from rfl] at hf1016_0); (try simp only [Nat.reduceMul, Nat.zero_mul, Nat.zero_add, Nat.reduceAdd] at hf1016_0); replace p1016 := eq_true p1016; replace q1016 := eq_true q1016; obtain ⟨hy2016_, hz2016_⟩ := Kd.R_celln 0 HO233.out (3 : Int) (by omega) (of_decide_eq_true (by first | (with_reducible assumption) | assumption)); (try simp only [Int.reduceToNat, Int.toNat_zero, Int.toNat_ofNat, Nat.reduceMul, Nat.zero_mul, Nat.zero_add] at hy2016_ hz2016_); (try rw [show ((3 : Int)).toNat = 3 from rfl] at hy2016_); (try rw [show ((3 : Int)).toNat = 3 from rfl] at hz2016_); have HP2016 := Kd.R_putg HO233.out (3 : Int) ((t234) % 256)) | ((with_reducible refine gate_store (t := 5) (p := 51) rfl ?_); (try (rw [drewN_self w2015]; generalize hq_ : World.drewN w2015 _ = w2015; have n0_ := Aside0.mk (Kd.R_at hq_ HO233.out); have n1_ := Aside0.mk (blk_at hq_ BK218.out); have n2_ := Aside0.mk (below_at hq_ HB.out); clear hq_ HO233 BK218 HB; have HO233 := n0_; have BK218 := n1_; have HB := n2_; clear n0_ n1_ n2_; (try (obtain ⟨⟨hcyBK218_0, hcyBK218_1, hcyBK218_2, hcyBK218_3⟩, hfyBK218_0, hfyBK218_1, hfyBK218_2, hfyBK218_3⟩ := cells4 BK218.out)); (try (obtain ⟨hy2016_, hz2016_⟩ := Kd.R_celln 0 HO233.out (3 : Int) (by omega) (of_decide_eq_true (by first | (with_reducible assumption) | assumption)))); (try (try simp only [Int.reduceToNat, Int.toNat_zero, Int.toNat_ofNat, Nat.reduceMul, Nat.zero_mul, Nat.zero_add] at hy2016_ hz2016_)); (try (try rw [show ((3 : Int)).toNat = 3 from rfl] at hy2016_)); (try (try rw [show ((3 : Int)).toNat = 3 from rfl] at hz2016_)); (try (have HP2016 := Kd.R_putg HO233.out (3 : Int) ((t234) % 256))))); refine store_event (t := 5) (p := 51) (v := ?_) (w1 := (w2015.setCell ⟨go1014, (3 : Int).toNat, none⟩ (.int .u8 ((t234) % 256)))) ?hg ?ho ?hn ?hr ?_; (case ho => rfl); (case hg => rfl); (case hn => rfl); (case hr => first | (go_simp; done) | (go_simp; rfl)); intro w2017 hw; have hg : w2015.grownBy w2017 (some go1014) := (by rw [hw]; exact HP2016.2); have hp_ : Kd.R (Kd.int .u8) 5 w2017 w.heap.size (fun _ => True) (.slice (some ⟨go1014, 0, none⟩) t231.length co2013) y236 := (by rw [hw, Ny236.out]; exact HP2016.1); clear HP2016; have n0_ := Aside0.mk (blk_grown (Bh BK218) hg (Kd.R_ne HO233.out BK218.out (by decide))); have n1_ := Aside0.mk (hp_); have n2_ := Aside0.mk ((by rw [hw]; exact below_set (HB.out) GB1014.out : Below w.heap.size w w2017)); clear BK218; clear HO233; clear HB; have BK218 := n0_; have HO233 := n1_; have HB := n2_; clear n0_ n1_ n2_; clear hg hw hp_))
 go_ret2
 exact ⟨_, by first | rfl | (simp [errW_none, errW_some] <;> rfl) | (simp [*, errW_none, errW_some] <;> rfl), by (with_reducible repeat (first | apply Kd.R_alloc | apply Kd.R_drewN | apply Kd.R_drew)); exact HO233.out, wB⟩
 }
 {
 rw [if_neg c1015] at H
 exact absurd H (by simp)
 }
 }
 {
 rw [if_neg c1013] at H
 exact absurd H (by simp)
 }
 }
 }
 }
 )

end Go.Proofs.Ytkfbcmbemihbnaa.PFnExactComplain
