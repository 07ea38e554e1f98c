-- Written for this claim by a program of this session (wip/mkprint.py: the print, turned at a few places). Not trusted: Lean checks it.
import Derived.Test.YtkfbcmbemihbnaaPFnExactComplainx0
import Derived.Test.YtkfbcmbemihbnaaPFnExactComplainx7
namespace Go.Proofs.Ytkfbcmbemihbnaa.PFnExactComplain
open Go.RowKit Go.Proofs.YtkfbcmbemihbnaaW.PrintWords Go.Proofs.YtkfbcmbemihbnaaW.PrintLast Go.Proofs.YtkfbcmbemihbnaaW.PrintMore
attribute [local go_sem] max2_int min2_int max_two min_two max_three min_three max_four min_four   -- for this text's walks alone
set_option linter.unusedVariables false
set_option linter.unusedSimpArgs false

/-! ### impl_EncodeIcmp: function 118 -/
def impl_EncodeIcmp.j0 : Nat → Bool → Int → Int → Int → List Int → Option (List Int × Int)
  | 0, _, _, _, _, _ => none
  | k + 1, x33, x328000, x328001, x328002, x328003 => if x33 = true then (some (([] : List Int), 1)) else (if (x328003.length : Int) > 65000 then (some (([] : List Int), 7)) else ((impl_put.f k (([(x328000) % 256, (x328001) % 256, 0, 0] : List Int)) 4 x328002).bind fun t331 => (if t331.length + x328003.length < 140737488355328 then ((some (t331 ++ x328003 : List Int)).bind fun y334 => ((impl_Checksum.f k y334).bind fun t337 => (if 2 < (y334.length : Int) then (if 3 < (y334.length : Int) then (some (((y334.set (2 : Int).toNat ((t337 / 256) % 256)).set (3 : Int).toNat ((t337) % 256)), 0)) else (none)) else (none)))) else (none))))
def impl_EncodeIcmp.f (k : Nat) (a0_0 : Int) (a0_1 : Int) (a0_2 : Int) (l0_3 : List Int) : Option (List Int × Int) := if a0_0 < 0 then (impl_EncodeIcmp.j0 k true a0_0 a0_1 a0_2 l0_3) else (if a0_0 > 255 then (impl_EncodeIcmp.j0 k true a0_0 a0_1 a0_2 l0_3) else (if a0_1 < 0 then (impl_EncodeIcmp.j0 k true a0_0 a0_1 a0_2 l0_3) else (if a0_1 > 255 then (impl_EncodeIcmp.j0 k true a0_0 a0_1 a0_2 l0_3) else (if a0_2 < 0 then (impl_EncodeIcmp.j0 k true a0_0 a0_1 a0_2 l0_3) else (impl_EncodeIcmp.j0 k (decide (a0_2 > 4294967295)) a0_0 a0_1 a0_2 l0_3)))))
theorem impl_EncodeIcmp.mono_l : ∀ k, (∀ y0 y1 y2 y3 y4, LeO (impl_EncodeIcmp.j0 k y0 y1 y2 y3 y4) (impl_EncodeIcmp.j0 (k + 1) y0 y1 y2 y3 y4))
  | 0 => fun _ _ _ _ _ r h => by simp [impl_EncodeIcmp.j0] at h
  | k + 1 => by
    have ih0 := impl_EncodeIcmp.mono_l k
    · intro y0 y1 y2 y3 y4
      unfold impl_EncodeIcmp.j0
      repeat' first
      | (with_reducible exact ih0 _ _ _ _ _)
      | (with_reducible exact impl_Checksum.mono _ _)
      | (with_reducible exact impl_put.mono _ _ _ _)
      | (with_reducible exact LeO.refl _)
      | (with_reducible exact LeO.none _)
      | (with_reducible refine LeO.ite ?_ ?_)
      | (with_reducible refine LeO.bind ?_ (fun _ => ?_))
      | exact ih0 _ _ _ _ _
      | exact impl_Checksum.mono _ _
      | exact impl_put.mono _ _ _ _
      | exact LeO.none _
      | refine LeO.ite ?_ ?_
      | refine LeO.bind ?_ (fun _ => ?_)
theorem impl_EncodeIcmp.mono : ∀ a0 a1 a2 a3 k, LeO (impl_EncodeIcmp.f k a0 a1 a2 a3) (impl_EncodeIcmp.f (k + 1) a0 a1 a2 a3) := by
 intro a0 a1 a2 a3 k
 have ih0 := impl_EncodeIcmp.mono_l k
 unfold impl_EncodeIcmp.f
 repeat' first
     | (with_reducible exact ih0 _ _ _ _ _)
     | (with_reducible exact impl_Checksum.mono _ _)
     | (with_reducible exact impl_put.mono _ _ _ _)
     | (with_reducible exact LeO.refl _)
     | (with_reducible exact LeO.none _)
     | (with_reducible refine LeO.ite ?_ ?_)
     | (with_reducible refine LeO.bind ?_ (fun _ => ?_))
     | exact ih0 _ _ _ _ _
     | exact impl_Checksum.mono _ _
     | exact impl_put.mono _ _ _ _
     | exact LeO.none _
     | refine LeO.ite ?_ ?_
     | refine LeO.bind ?_ (fun _ => ?_)
def impl_EncodeIcmp.T5 : Bool × List (List Nat × List Nat) := (true, [([], []), ([0], [0]), ([1], [1]), ([], []), ([3], [3]), ([4], [4]), ([2, 5], [2, 5]), ([], []), ([7], [7]), ([6, 8], [6, 8]), ([], []), ([10], [10]), ([9, 11, 9], [9, 11]), ([12, 12, 0, 1, 2, 3, 4, 5, 6, 7, 8, 9, 10, 11, 12], [12])])
def impl_EncodeIcmp.B5 : List Nat := [0, 1, 3, 0, 8, 24, 63, 0, 128, 511, 0, 1024, 4095, 8191]
theorem impl_EncodeIcmp.tab5 : rtab .any (opsOf Try.f118 5) = impl_EncodeIcmp.T5 := by kernel_rfl
theorem impl_EncodeIcmp.bits5 : waitsOk impl_EncodeIcmp.T5.2 impl_EncodeIcmp.B5 = true := by kernel_rfl
set_option maxHeartbeats 60000000 in
set_option maxRecDepth 100000 in
theorem impl_EncodeIcmp.calls (k : Nat) (a0_0 : Int) (a0_1 : Int) (a0_2 : Int) (A0_3 : Option Addr) (c0_3 : Nat) (l0_3 : List Int) (r1 : List Int) (r2 : Int) (w : World) (hr0_3 : Kd.C (Kd.int .u8) w A0_3 l0_3.length l0_3) (hc0_3 : l0_3.length ≤ c0_3) (h : impl_EncodeIcmp.f k a0_0 a0_1 a0_2 l0_3 = some (r1, r2)) :
 Calls Try.prog 118 #[.agg #[.int .i64 a0_0, .int .i64 a0_1, .int .i64 a0_2, .slice A0_3 l0_3.length c0_3]] w fun e w' => ∃ v0_ : Value, e = .returned (.tuple #[v0_, .int .i64 r2]) ∧ Kd.R (Kd.int .u8) 5 w' w.heap.size (fun _ => True) v0_ r1 ∧ Below w.heap.size w w' := by
 have hu153 := Try.underlying153
 have HR0_3 := Aside0.mk hr0_3
 have HC0_3 := Aside0.mk hc0_3
 clear hr0_3 hc0_3
 have HB := Aside0.mk (Below.refl w.heap.size w)
 have H : (if a0_0 < 0 then (impl_EncodeIcmp.j0 k true a0_0 a0_1 a0_2 l0_3) else (if a0_0 > 255 then (impl_EncodeIcmp.j0 k true a0_0 a0_1 a0_2 l0_3) else (if a0_1 < 0 then (impl_EncodeIcmp.j0 k true a0_0 a0_1 a0_2 l0_3) else (if a0_1 > 255 then (impl_EncodeIcmp.j0 k true a0_0 a0_1 a0_2 l0_3) else (if a0_2 < 0 then (impl_EncodeIcmp.j0 k true a0_0 a0_1 a0_2 l0_3) else (impl_EncodeIcmp.j0 k (decide (a0_2 > 4294967295)) a0_0 a0_1 a0_2 l0_3)))))) = some (r1, r2) := h
 clear h
 have HC2 := Aside0.mk H
 clear H
 go_enter Try.func118, Try.ntmps118
 go_upto_region 1 with (first | ((with_reducible refine gate_dst (N := 1) rfl ?_); refine box_event ?hg (N := 1) ?hd (cs := #[.int .i64 a0_0, .int .i64 a0_1, .int .i64 a0_2, .slice A0_3 l0_3.length c0_3]) (t := 153) ?hr ?_; (case hd => rfl); (case hg => rfl); (case hr => first | (go_simp; done) | (go_simp; rfl)); intro gb327 hg w1001 hbox hb; have n0_ := Aside0.mk (below_step wB hb); have n1_ := Aside0.mk (hbox); have n2_ := Aside0.mk ((by rw [hg]; exact (below_size wB) : w.heap.size ≤ gb327)); have n3_ := Aside0.mk ((by rw [hg]; exact (below_size wB) : w.heap.size ≤ gb327)); clear HB; have HB := n0_; have BK327 := n1_; have GW327 := n2_; have GE327 := n3_; clear n0_ n1_ n2_ n3_; clear hb hbox hg))
 (try simp only [Act.put, List.setIfInBounds_toArray, List.set_cons_zero, List.set_cons_succ])
 go_cut [33] (fun v33 wc => ∃ (kq : Nat) (x33_1 : Bool), v33 = .bool x33_1 ∧ Aside0 (impl_EncodeIcmp.j0 kq x33_1 a0_0 a0_1 a0_2 l0_3 = some (r1, r2)) ∧ Aside0 (kq ≤ k) ∧ Aside0 (wc.heap[gb327]? = some (.cells #[.int .i64 a0_0, .int .i64 a0_1, .int .i64 a0_2, (.slice A0_3 l0_3.length c0_3)] 153 (0, 0))) ∧ Aside0 (Below w.heap.size w wc))
 case first => (
 have H := HC2.out
 clear HC2
 by_cases c1002 : a0_0 < 0
 rw [if_pos c1002] at H
 have c1002b0 : decide (a0_0 < 0) = true := decide_eq_true c1002
 clear c1002
 (first | rw [c1002b0] | (simp only [i64_w, i32_w]; rw [c1002b0]) | skip)
 have H' := Aside0.mk H
 clear H
 rotate_left
 rw [if_neg c1002] at H
 have c1002b0 : decide (a0_0 < 0) = false := decide_eq_false c1002
 clear c1002
 (first | rw [c1002b0] | (simp only [i64_w, i32_w]; rw [c1002b0]) | skip)
 by_cases c1003 : a0_0 > 255
 rw [if_pos c1003] at H
 have c1003b0 : decide (255 < a0_0) = true := decide_eq_true c1003
 clear c1003
 have H' := Aside0.mk H
 clear H
 rotate_left
 rw [if_neg c1003] at H
 have c1003b0 : decide (255 < a0_0) = false := decide_eq_false c1003
 clear c1003
 by_cases c1004 : a0_1 < 0
 rw [if_pos c1004] at H
 have c1004b0 : decide (a0_1 < 0) = true := decide_eq_true c1004
 clear c1004
 have H' := Aside0.mk H
 clear H
 rotate_left
 rw [if_neg c1004] at H
 have c1004b0 : decide (a0_1 < 0) = false := decide_eq_false c1004
 clear c1004
 by_cases c1005 : a0_1 > 255
 rw [if_pos c1005] at H
 have c1005b0 : decide (255 < a0_1) = true := decide_eq_true c1005
 clear c1005
 have H' := Aside0.mk H
 clear H
 rotate_left
 rw [if_neg c1005] at H
 have c1005b0 : decide (255 < a0_1) = false := decide_eq_false c1005
 clear c1005
 by_cases c1006 : a0_2 < 0
 rw [if_pos c1006] at H
 have c1006b0 : decide (a0_2 < 0) = true := decide_eq_true c1006
 clear c1006
 have H' := Aside0.mk H
 clear H
 rotate_left
 rw [if_neg c1006] at H
 have c1006b0 : decide (a0_2 < 0) = false := decide_eq_false c1006
 clear c1006
 have H' := Aside0.mk H
 clear H
 rotate_left
 all_goals (
 obtain ⟨⟨hcz2001_0, hcz2001_1, hcz2001_2, hcz2001_3⟩, hfz2001_0, hfz2001_1, hfz2001_2, hfz2001_3⟩ := cells4 BK327.out
 go_wp2
 go_meet
 )
 iterate 5 (
 focus (
 case rel => exact ⟨_, (true), (by first | rfl | (simp; done) | (simp [*]; done)), H', ⟨by first | omega | exact Nat.le_refl _⟩, ⟨Bh BK327⟩, ⟨wB⟩⟩
 )
 )
 {
 case rel => exact ⟨_, (decide (a0_2 > 4294967295)), (by first | rfl | (simp; done) | (simp [*]; done)), H', ⟨by first | omega | exact Nat.le_refl _⟩, ⟨Bh BK327⟩, ⟨wB⟩⟩
 }
 )
 case rest => (
 clear HC2
 try clear c0
 try clear c1002
 try clear c1002b0
 try clear c1003
 try clear c1003b0
 try clear c1004
 try clear c1004b0
 try clear c1005
 try clear c1005b0
 try clear c1006
 try clear c1006b0
 try clear hcz2001_0 hcz2001_1 hcz2001_2 hcz2001_3 hfz2001_0 hfz2001_1 hfz2001_2 hfz2001_3
 obtain ⟨kq, x33_1, rfl, HA, HJ1, BK327, HB⟩ := hcut
 cases kq with
 | zero => exact absurd HA.out (by simp [impl_EncodeIcmp.j0])
 | succ kj1 => {
 have H := HA.out
 clear HA
 simp only [impl_EncodeIcmp.j0] at H
 by_cases c1007 : x33_1 = true
 {
 subst c1007
 have H1 : (some (([] : List Int), 1)) = some (r1, r2) := by rw [if_pos rfl] at H; exact H
 clear H
 have H := H1
 clear H1
 simp only [Option.some.injEq, Prod.mk.injEq] at H
 obtain ⟨rfl, rfl⟩ := H
 go_wp2
 go_ret2
 exact ⟨_, by first | rfl | (simp [errW_none, errW_some] <;> rfl) | (simp [*, errW_none, errW_some] <;> rfl), by first | exact Kd.R_nil _ _ _ _ _ | exact Kd.N_nil _ _ _ _ _ | exact Kd.V_nil _ _ _ _ _ | exact Kd.Q_nil _ _ _ _ _ | exact Kd.S_nil _ _ _ _ _, wB⟩
 }
 {
 replace c1007 := Bool.eq_false_iff.mpr c1007
 subst c1007
 have H1 : (if (l0_3.length : Int) > 65000 then (some (([] : List Int), 7)) else ((impl_put.f kj1 (([(a0_0) % 256, (a0_1) % 256, 0, 0] : List Int)) 4 a0_2).bind fun t331 => (if t331.length + l0_3.length < 140737488355328 then ((some (t331 ++ l0_3 : List Int)).bind fun y334 => ((impl_Checksum.f kj1 y334).bind fun t337 => (if 2 < (y334.length : Int) then (if 3 < (y334.length : Int) then (some (((y334.set (2 : Int).toNat ((t337 / 256) % 256)).set (3 : Int).toNat ((t337) % 256)), 0)) else (none)) else (none)))) else (none)))) = some (r1, r2) := by rw [if_neg (show ¬ (false = true) by decide)] at H; exact H
 clear H
 have H := H1
 clear H1
 by_cases c1008 : (l0_3.length : Int) > 65000
 {
 rw [if_pos c1008] at H
 have c1008b0 : decide (65000 < (l0_3.length : Int)) = true := decide_eq_true c1008
 have c1008b1 : decide (65000 < l0_3.length) = true := decide_eq_true (by omega)
 clear c1008
 simp only [Option.some.injEq, Prod.mk.injEq] at H
 obtain ⟨rfl, rfl⟩ := H
 obtain ⟨⟨hcz2001_0, hcz2001_1, hcz2001_2, hcz2001_3⟩, hfz2001_0, hfz2001_1, hfz2001_2, hfz2001_3⟩ := cells4 BK327.out
 go_wp2
 go_ret2
 exact ⟨_, by first | rfl | (simp [errW_none, errW_some] <;> rfl) | (simp [*, errW_none, errW_some] <;> rfl), by first | exact Kd.R_nil _ _ _ _ _ | exact Kd.N_nil _ _ _ _ _ | exact Kd.V_nil _ _ _ _ _ | exact Kd.Q_nil _ _ _ _ _ | exact Kd.S_nil _ _ _ _ _, wB⟩
 }
 {
 rw [if_neg c1008] at H
 have c1008b0 : decide (65000 < (l0_3.length : Int)) = false := decide_eq_false c1008
 have c1008b1 : decide (65000 < l0_3.length) = false := decide_eq_false (by omega)
 clear c1008
 obtain ⟨y328, hy328⟩ : ∃ y_ : List Int, y_ = (([(a0_0) % 256, (a0_1) % 256, 0, 0] : List Int)) := ⟨_, rfl⟩
 replace H : ((impl_put.f kj1 y328 4 a0_2).bind fun t331 => (if t331.length + l0_3.length < 140737488355328 then ((some (t331 ++ l0_3 : List Int)).bind fun y334 => ((impl_Checksum.f kj1 y334).bind fun t337 => (if 2 < (y334.length : Int) then (if 3 < (y334.length : Int) then (some (((y334.set (2 : Int).toNat ((t337 / 256) % 256)).set (3 : Int).toNat ((t337) % 256)), 0)) else (none)) else (none)))) else (none))) = some (r1, r2) := by first | (rw [hy328]; with_reducible exact H) | (have H2_ := (Option.bind_some _ _).symm.trans H; rw [hy328]; with_reducible exact H2_) | (have H2_ := (Option.bind_some _ _).symm.trans H; with_reducible exact H2_) | with_reducible exact H | (rw [hy328]; exact H) | exact H
 have Ny328 := Aside0.mk hy328
 clear hy328
 replace H := Option.bind_eq_some_iff.mp H
 obtain ⟨t331, A10090, H⟩ := H
 replace H : (if t331.length + l0_3.length < 140737488355328 then ((some (t331 ++ l0_3 : List Int)).bind fun y334 => ((impl_Checksum.f kj1 y334).bind fun t337 => (if 2 < (y334.length : Int) then (if 3 < (y334.length : Int) then (some (((y334.set (2 : Int).toNat ((t337 / 256) % 256)).set (3 : Int).toNat ((t337) % 256)), 0)) else (none)) else (none)))) else (none)) = some (r1, r2) := H
 have A1009 := Aside0.mk A10090
 clear A10090
 by_cases c1010 : t331.length + l0_3.length < 140737488355328
 {
 rw [if_pos c1010] at H
 have LMc1010 := Aside0.mk c1010
 clear c1010
 obtain ⟨y334, hy334⟩ : ∃ y_ : List Int, y_ = (t331 ++ l0_3) := ⟨_, rfl⟩
 replace H : ((impl_Checksum.f kj1 y334).bind fun t337 => (if 2 < (y334.length : Int) then (if 3 < (y334.length : Int) then (some (((y334.set (2 : Int).toNat ((t337 / 256) % 256)).set (3 : Int).toNat ((t337) % 256)), 0)) else (none)) else (none))) = some (r1, r2) := by first | (rw [hy334]; with_reducible exact H) | (have H2_ := (Option.bind_some _ _).symm.trans H; rw [hy334]; with_reducible exact H2_) | (have H2_ := (Option.bind_some _ _).symm.trans H; with_reducible exact H2_) | with_reducible exact H | (rw [hy334]; exact H) | exact H
 have Ny334 := Aside0.mk hy334
 clear hy334
 replace H := Option.bind_eq_some_iff.mp H
 obtain ⟨t337, A10110, H⟩ := H
 replace H : (if 2 < (y334.length : Int) then (if 3 < (y334.length : Int) then (some (((y334.set (2 : Int).toNat ((t337 / 256) % 256)).set (3 : Int).toNat ((t337) % 256)), 0)) else (none)) else (none)) = some (r1, r2) := H
 have A1011 := Aside0.mk A10110
 clear A10110
 by_cases c1012 : 2 < (y334.length : Int)
 {
 rw [if_pos c1012] at H
 have c1012b0 : decide (2 < (y334.length : Int)) = true := decide_eq_true c1012
 have c1012b1 : decide (2 < y334.length) = true := decide_eq_true (by omega)
 clear c1012
 obtain ⟨y338, hy338⟩ : ∃ y_ : List Int, y_ = (y334.set (2 : Int).toNat ((t337 / 256) % 256)) := ⟨_, rfl⟩
 replace H : (if 3 < (y334.length : Int) then (some ((y338.set (3 : Int).toNat ((t337) % 256)), 0)) else (none)) = some (r1, r2) := by first | (rw [hy338]; with_reducible exact H) | (have H2_ := (Option.bind_some _ _).symm.trans H; rw [hy338]; with_reducible exact H2_) | (have H2_ := (Option.bind_some _ _).symm.trans H; with_reducible exact H2_) | with_reducible exact H | (rw [hy338]; exact H) | exact H
 have Ny338 := Aside0.mk hy338
 clear hy338
 by_cases c1014 : 3 < (y334.length : Int)
 {
 rw [if_pos c1014] at H
 have c1014b0 : decide (3 < (y334.length : Int)) = true := decide_eq_true c1014
 have c1014b1 : decide (3 < y334.length) = true := decide_eq_true (by omega)
 clear c1014
 obtain ⟨y339, hy339⟩ : ∃ y_ : List Int, y_ = (y338.set (3 : Int).toNat ((t337) % 256)) := ⟨_, rfl⟩
 replace H : (some (y339, 0)) = some (r1, r2) := by first | (rw [hy339]; with_reducible exact H) | (have H2_ := (Option.bind_some _ _).symm.trans H; rw [hy339]; with_reducible exact H2_) | (have H2_ := (Option.bind_some _ _).symm.trans H; with_reducible exact H2_) | with_reducible exact H | (rw [hy339]; exact H) | exact H
 have Ny339 := Aside0.mk hy339
 clear hy339
 simp only [Option.some.injEq, Prod.mk.injEq] at H
 obtain ⟨rfl, rfl⟩ := H
 obtain ⟨⟨hcz2001_0, hcz2001_1, hcz2001_2, hcz2001_3⟩, hfz2001_0, hfz2001_1, hfz2001_2, hfz2001_3⟩ := cells4 BK327.out
 try go_wp2
 have n0_ := Aside0.mk (blk_drew BK327.out)
 have n1_ := Aside0.mk (below_drew1 HB.out)
 clear BK327
 clear HB
 have BK327 := n0_
 have HB := n1_
 clear n0_ n1_
 refine start_ (n := 14) (S := fun w' => w'.cell? ⟨gb327, 0, none⟩ = some (.int .i64 a0_0) ∧ w'.cell? ⟨gb327, 1, none⟩ = some (.int .i64 a0_1) ∧ w'.cell? ⟨gb327, 2, none⟩ = some (.int .i64 a0_2) ∧ w'.cell? ⟨gb327, 3, none⟩ = some (.slice A0_3 l0_3.length c0_3)) (ds := []) #[false, false, false, false, false, false, false, false, false, false, false, false, false, false] (by kernel_rfl) rfl rfl ⟨(blk_cell BK327.out 0).trans rfl, (blk_cell BK327.out 1).trans rfl, (blk_cell BK327.out 2).trans rfl, (blk_cell BK327.out 3).trans rfl⟩ (fun hHeld => ?_); refine with_tabW impl_EncodeIcmp.tab5 impl_EncodeIcmp.bits5 (fun HT_ HW_ => ?_)
 generalize wc.drew = w2002 at BK327 HB hHeld ⊢
 refine pure_ (i := 0) (N := some 38) (v := ?_) (a' := ?_) #[true, false, false, false, false, false, false, false, false, false, false, false, false, false] rfl rfl (any_of HT_.out (by kernel_rfl)) (fun _ _ _ h => h) (Or.inl ⟨by rfl, ?_⟩) ?_ ?_
 rotate_left
 {
 intro w'
 go_simp
 with_reducible rfl
 }
 rotate_left
 {
 simp only [Act.put, List.setIfInBounds_toArray, List.set_cons_zero, List.set_cons_succ, i64_w, i32_w]
 rfl
 }
 refine pure_ (i := 3) (N := some 41) (v := ?_) (a' := ?_) #[true, false, false, true, false, false, false, false, false, false, false, false, false, false] rfl rfl (any_of HT_.out (by kernel_rfl)) (fun _ _ _ h => h) (Or.inl ⟨by rfl, ?_⟩) ?_ ?_
 rotate_left
 {
 intro w'
 go_simp
 with_reducible rfl
 }
 rotate_left
 {
 simp only [Act.put, List.setIfInBounds_toArray, List.set_cons_zero, List.set_cons_succ, i64_w, i32_w]
 rfl
 }
 refine pure_ (i := 7) (N := some 45) (v := ?_) (a' := ?_) #[true, false, false, true, false, false, false, true, false, false, false, false, false, false] rfl rfl (any_of HT_.out (by kernel_rfl)) (fun _ _ _ h => h) (Or.inl ⟨by rfl, ?_⟩) ?_ ?_
 rotate_left
 {
 intro w'
 go_simp
 with_reducible rfl
 }
 rotate_left
 {
 simp only [Act.put, List.setIfInBounds_toArray, List.set_cons_zero, List.set_cons_succ, i64_w, i32_w]
 rfl
 }
 refine pure_ (i := 10) (N := some 48) (v := ?_) (a' := ?_) #[true, false, false, true, false, false, false, true, false, false, true, false, false, false] rfl rfl (any_of HT_.out (by kernel_rfl)) (fun _ _ _ h => h) (Or.inl ⟨by rfl, ?_⟩) ?_ ?_
 rotate_left
 {
 intro w'
 go_simp
 with_reducible rfl
 }
 rotate_left
 {
 simp only [Act.put, List.setIfInBounds_toArray, List.set_cons_zero, List.set_cons_succ, i64_w, i32_w]
 rfl
 }
 refine take_ (i := 1) (N := some 39) (v := ?_) (a' := ?_) #[true, true, false, true, false, false, false, true, false, false, true, false, false, false] rfl rfl (take_ofW HT_.out HW_.out (by kernel_rfl)) (fun _ _ _ h => h) (Or.inl ⟨by rfl, ?_⟩) hHeld ?_ ?_
 rotate_left
 {
 rintro w' ⟨s0, s1, s2, s3⟩
 go_simp
 with_reducible rfl
 }
 rotate_left
 {
 simp only [Act.put, List.setIfInBounds_toArray, List.set_cons_zero, List.set_cons_succ, i64_w, i32_w]
 rfl
 }
 refine pure_ (i := 2) (N := some 40) (v := ?_) (a' := ?_) #[true, true, true, true, false, false, false, true, false, false, true, false, false, false] rfl rfl (any_of HT_.out (by kernel_rfl)) (fun _ _ _ h => h) (Or.inl ⟨by rfl, ?_⟩) ?_ ?_
 rotate_left
 {
 intro w'
 go_simp
 with_reducible rfl
 }
 rotate_left
 {
 simp only [Act.put, List.setIfInBounds_toArray, List.set_cons_zero, List.set_cons_succ, i64_w, i32_w]
 rfl
 }
 refine take_ (i := 4) (N := some 42) (v := ?_) (a' := ?_) #[true, true, true, true, true, false, false, true, false, false, true, false, false, false] rfl rfl (take_ofW HT_.out HW_.out (by kernel_rfl)) (fun _ _ _ h => h) (Or.inl ⟨by rfl, ?_⟩) hHeld ?_ ?_
 rotate_left
 {
 rintro w' ⟨s0, s1, s2, s3⟩
 go_simp
 with_reducible rfl
 }
 rotate_left
 {
 simp only [Act.put, List.setIfInBounds_toArray, List.set_cons_zero, List.set_cons_succ, i64_w, i32_w]
 rfl
 }
 refine pure_ (i := 5) (N := some 43) (v := ?_) (a' := ?_) #[true, true, true, true, true, true, false, true, false, false, true, false, false, false] rfl rfl (any_of HT_.out (by kernel_rfl)) (fun _ _ _ h => h) (Or.inl ⟨by rfl, ?_⟩) ?_ ?_
 rotate_left
 {
 intro w'
 go_simp
 with_reducible rfl
 }
 rotate_left
 {
 simp only [Act.put, List.setIfInBounds_toArray, List.set_cons_zero, List.set_cons_succ, i64_w, i32_w]
 rfl
 }
 refine take_ (i := 8) (N := some 46) (v := ?_) (a' := ?_) #[true, true, true, true, true, true, false, true, true, false, true, false, false, false] rfl rfl (take_ofW HT_.out HW_.out (by kernel_rfl)) (fun _ _ _ h => h) (Or.inl ⟨by rfl, ?_⟩) hHeld ?_ ?_
 rotate_left
 {
 rintro w' ⟨s0, s1, s2, s3⟩
 go_simp
 with_reducible rfl
 }
 rotate_left
 {
 simp only [Act.put, List.setIfInBounds_toArray, List.set_cons_zero, List.set_cons_succ, i64_w, i32_w]
 rfl
 }
 refine take_ (i := 11) (N := some 49) (v := ?_) (a' := ?_) #[true, true, true, true, true, true, false, true, true, false, true, true, false, false] rfl rfl (take_ofW HT_.out HW_.out (by kernel_rfl)) (fun _ _ _ h => h) (Or.inl ⟨by rfl, ?_⟩) hHeld ?_ ?_
 rotate_left
 {
 rintro w' ⟨s0, s1, s2, s3⟩
 go_simp
 with_reducible rfl
 }
 rotate_left
 {
 simp only [Act.put, List.setIfInBounds_toArray, List.set_cons_zero, List.set_cons_succ, i64_w, i32_w]
 rfl
 }
 refine one_ (i := 6) (N := some 44) #[true, true, true, true, true, true, true, true, true, false, true, true, false, false] rfl rfl (one_of HT_.out (by kernel_rfl)) (by decide) (fun K hK => ?_)
 refine Kd.R_lit_step (Kd.int .u8) _ 5 ?hg (N := 44) ?hd (xs := ([(a0_0) % 256, (a0_1) % 256, 0, 0] : List Int)) (inner := [.int .u8 ((a0_0) % 256), .int .u8 ((a0_1) % 256), .int .u8 0, .int .u8 0]) (ok := fun _ => True) (okp := fun _ => True) ?hr ?hp (fun _ hk => hk) trivial (Below.refl _ _) (Nat.le_refl _) (by simp) ?_; (case hd => rfl); (case hg => rfl); (case hr => first | (go_simp; done) | (go_simp; rfl)); (case hp => exact (Reps.one (show Kd.M (Kd.int .u8) _ _ _ ((a0_0) % 256) [.int .u8 ((a0_0) % 256)] from rfl) (Reps.one (show Kd.M (Kd.int .u8) _ _ _ ((a0_1) % 256) [.int .u8 ((a0_1) % 256)] from rfl) (Reps.one (show Kd.M (Kd.int .u8) _ _ _ 0 [.int .u8 0] from rfl) (Reps.one (show Kd.M (Kd.int .u8) _ _ _ 0 [.int .u8 0] from rfl) (Reps.none _ _))))))
 intro v329 w2003 ho2004 hb hg_ hnew_
 clear hg_ hnew_
 (first | rw [← Ny328.out] at ho2004 | (simp only [Int.reduceToNat] at ho2004; rw [← Ny328.out] at ho2004))
 have n0_ := Aside0.mk (Kd.R_lower ho2004 (below_size wB))
 have n1_ := Aside0.mk (blk_below (Bh BK327) hb)
 have n2_ := Aside0.mk (below_step wB hb)
 clear BK327
 clear HB
 have HO330 := n0_
 have BK327 := n1_
 have HB := n2_
 clear n0_ n1_ n2_
 clear hb ho2004
 obtain ⟨Ao2005, co2005, eo2005⟩ := Kd.R_slice HO330.out
 (first | subst eo2005 | (injection eo2005 with f1_ f2_ f3_; have f4_ := f1_.symm; have f5_ := f3_.symm; clear f1_ f2_ f3_; subst f4_; subst f5_))
 refine hK.out _ _ ⟨(blk_cell BK327.out 0).trans rfl, (blk_cell BK327.out 1).trans rfl, (blk_cell BK327.out 2).trans rfl, (blk_cell BK327.out 3).trans rfl⟩ (fun hHeld => ?_)
 clear hK K
 refine norm_ (a' := ?_) ?_ ?_
 rotate_left
 {
 show Act.put _ (some 44) _ = _
 simp only [Act.put, List.setIfInBounds_toArray, List.set_cons_zero, List.set_cons_succ, i64_w, i32_w]
 rfl
 }
 refine one_ (i := 9) (N := some 47) #[true, true, true, true, true, true, true, true, true, true, true, true, false, false] rfl rfl (one_of HT_.out (by kernel_rfl)) (by decide) (fun K hK => ?_)
 refine goes_ Try.func147 (by kernel_rfl) rfl #[.slice Ao2005 y328.length co2005, .int .i64 4, .int .i64 a0_2] (by rfl) rfl rfl wT ?_
 with_reducible refine (impl_put.calls kj1 (fun k_ => some k_ = (.slice Ao2005 y328.length co2005 : Value).ownBlock) (.slice Ao2005 y328.length co2005) y328 4 a0_2 t331 w _ ?side1 ?side2 A1009.out).mono ?_
 (case side1 => repeat (first | (with_reducible first | exact HB.out | apply below_alloc | apply pw_below_drewN | apply below_drew1 | refine below_set ?_ GE327.out) | exact HB.out))
 (case side2 => exact Kd.R_tight rfl HO330.out)
 rintro e w2006 ⟨v332, rfl, ho0, hb, hkp⟩
 refine ⟨_, rfl, ?_⟩
 have n0_ := Aside0.mk (blk_kept (Bh BK327) hkp (fun hs_ => (fun e_ => (Kd.R_ne HO330.out BK327.out (by decide)) e_) hs_))
 have n1_ := Aside0.mk (Kd.R_mono (ok' := fun k_ => True) ho0 (fun k_ hk_ => trivial))
 have n2_ := Aside0.mk (hb)
 clear BK327
 clear HB
 clear HO330
 have BK327 := n0_
 have HO333 := n1_
 have HB := n2_
 clear n0_ n1_ n2_
 (try clear hb)
 (try clear hkp)
 (try clear ho0)
 refine hK.out _ _ ⟨(blk_cell BK327.out 0).trans rfl, (blk_cell BK327.out 1).trans rfl, (blk_cell BK327.out 2).trans rfl, (blk_cell BK327.out 3).trans rfl⟩ (fun hHeld => ?_)
 clear hK K
 refine norm_ (a' := ?_) ?_ ?_
 rotate_left
 {
 show Act.put _ (some 47) _ = _
 simp only [Act.put, List.setIfInBounds_toArray, List.set_cons_zero, List.set_cons_succ, i64_w, i32_w]
 rfl
 }
 refine one_ (i := 12) (N := some 50) #[true, true, true, true, true, true, true, true, true, true, true, true, true, false] rfl rfl (one_of HT_.out (by kernel_rfl)) (by decide) (fun K hK => ?_)
 refine Kd.R_append_rows_step (Kd.int .u8) (w0 := w) w.heap.size (by rfl) (.tmp 47) (.tmp 49) 22 5 (.int .u8 0) 1 rfl Try.underlying22 info5 rfl (by decide) (by omega) v332 t331 l0_3 _ _ _ (fun _ => True) (fun _ => False) rfl rfl ?aO ?aR (fun _ _ h => h) (fun _ h => h.elim) ?aF ?aB ?aS ?aL ?_
 (case aR => exact Kd.C_below HR0_3.out wB)
 (case aB => exact wB)
 (case aF => exact (fun _ _ => trivial))
 (case aO => exact (Rh HO333))
 (case aS => exact (below_size wB))
 (case aL => have := LMc1010.out; omega)
 intro v335 w2007 ho hb hg hat
 rw [← Ny334.out] at ho
 have n0_ := Aside0.mk (blk_grown (Bh BK327) hg (Kd.R_ne HO333.out BK327.out (by decide)))
 have n1_ := Aside0.mk (hb)
 have n2_ := Aside0.mk (ho)
 clear BK327
 clear HB
 clear HO333
 have BK327 := n0_
 have HB := n1_
 have HO336 := n2_
 clear n0_ n1_ n2_
 clear ho hb hg hat
 refine hK.out _ _ ⟨(blk_cell BK327.out 0).trans rfl, (blk_cell BK327.out 1).trans rfl, (blk_cell BK327.out 2).trans rfl, (blk_cell BK327.out 3).trans rfl⟩ (fun hHeld => ?_)
 clear hK K
 refine norm_ (a' := ?_) ?_ ?_
 rotate_left
 {
 show Act.put _ (some 50) _ = _
 simp only [Act.put, List.setIfInBounds_toArray, List.set_cons_zero, List.set_cons_succ, i64_w, i32_w]
 rfl
 }
 refine pure_ (i := 13) (N := some 4) (v := ?_) (a' := ?_) #[true, true, true, true, true, true, true, true, true, true, true, true, true, true] rfl rfl (any_of HT_.out (by kernel_rfl)) (fun _ _ _ h => h) (Or.inl ⟨by rfl, ?_⟩) ?_ ?_
 rotate_left
 {
 intro w'
 go_simp
 with_reducible rfl
 }
 rotate_left
 {
 simp only [Act.put, List.setIfInBounds_toArray, List.set_cons_zero, List.set_cons_succ, i64_w, i32_w]
 rfl
 }
 refine done_ (done_of HT_.out (by kernel_rfl)) ?_
 obtain ⟨Ao2008, co2008, eo2008⟩ := Kd.R_slice HO336.out
 subst eo2008
 try go_wp2_with (first | ((with_reducible refine gate_callee (f := 71) rfl ?_); refine goesL_ (some 52) rfl rfl Try.func71 (by kernel_rfl) rfl #[.slice Ao2008 y334.length co2008] rfl wT ?_; (with_reducible refine (impl_Checksum.calls kj1 _ _ y334 t337 _ ?side1 ?side2 A1011.out).mono ?_); (case side1 => exact Ch HO336); (case side2 => exact (Kd.R_reads' HO336.out).2.1); rintro e w' ⟨rfl, ⟨nd, rfl⟩⟩; refine ⟨_, rfl, ?_⟩; (try (rw [drewN_self w2007]; generalize hq_ : World.drewN w2007 _ = w2007; have n0_ := Aside0.mk (Kd.R_at hq_ HO336.out); have n1_ := Aside0.mk (blk_at hq_ BK327.out); have n2_ := Aside0.mk (below_at hq_ HB.out); clear hq_ HO336 BK327 HB; have HO336 := n0_; have BK327 := n1_; have HB := n2_; clear n0_ n1_ n2_; (try (obtain ⟨⟨hcyBK327_0, hcyBK327_1, hcyBK327_2, hcyBK327_3⟩, hfyBK327_0, hfyBK327_1, hfyBK327_2, hfyBK327_3⟩ := cells4 BK327.out)))); have p1013 : 0 ≤ (2 : Int) := (by omega); have q1013 : (2 : Int) < ((y334.length : Int) : Int) := of_decide_eq_true (by first | (with_reducible assumption) | assumption); have qi1013 : (2 < y334.length) = True := eq_true (by omega); obtain ⟨go1013, co1013, eo1013, gb1013, gl1013, cl1013, HG1013⟩ := Kd.R_form HO336.out (by omega); (first | cases eo1013 | (injection eo1013 with ea_ en_ ec_; (first | subst ea_ | (injection ea_ with ea_; subst ea_)); subst ec_; clear en_)); have GB1013 := Aside0.mk gb1013; have GG1013 := Aside0.mk HG1013; clear gb1013 gl1013 HG1013; obtain ⟨hx1013_0, hf1013_0⟩ := Kd.R_celln 0 HO336.out (2 : Int) p1013 q1013; (try rw [show ((2 : Int)).toNat = 2 from rfl] at hx1013_0); (try simp only [Nat.reduceMul, Nat.zero_mul, Nat.zero_add, Nat.reduceAdd] at hx1013_0); (try rw [show ((2 : Int)).toNat = 2 from rfl] at hf1013_0); (try simp only [Nat.reduceMul, Nat.zero_mul, Nat.zero_add, Nat.reduceAdd] at hf1013_0); replace p1013 := eq_true p1013; replace q1013 := eq_true q1013; obtain ⟨hy2009_, hz2009_⟩ := Kd.R_celln 0 HO336.out (2 : Int) (by omega) (of_decide_eq_true (by first | (with_reducible assumption) | assumption)); (try simp only [Int.reduceToNat, Int.toNat_zero, Int.toNat_ofNat, Nat.reduceMul, Nat.zero_mul, Nat.zero_add] at hy2009_ hz2009_); (try rw [show ((2 : Int)).toNat = 2 from rfl] at hy2009_); (try rw [show ((2 : Int)).toNat = 2 from rfl] at hz2009_); have HP2009 := Kd.R_putg HO336.out (2 : Int) ((t337 / 256) % 256)) | ((with_reducible refine gate_store (t := 5) (p := 60) rfl ?_); (try (rw [drewN_self w2007]; generalize hq_ : World.drewN w2007 _ = w2007; have n0_ := Aside0.mk (Kd.R_at hq_ HO336.out); have n1_ := Aside0.mk (blk_at hq_ BK327.out); have n2_ := Aside0.mk (below_at hq_ HB.out); clear hq_ HO336 BK327 HB; have HO336 := n0_; have BK327 := n1_; have HB := n2_; clear n0_ n1_ n2_; (try (obtain ⟨⟨hcyBK327_0, hcyBK327_1, hcyBK327_2, hcyBK327_3⟩, hfyBK327_0, hfyBK327_1, hfyBK327_2, hfyBK327_3⟩ := cells4 BK327.out)); (try (obtain ⟨hy2009_, hz2009_⟩ := Kd.R_celln 0 HO336.out (2 : Int) (by omega) (of_decide_eq_true (by first | (with_reducible assumption) | assumption)))); (try (try simp only [Int.reduceToNat, Int.toNat_zero, Int.toNat_ofNat, Nat.reduceMul, Nat.zero_mul, Nat.zero_add] at hy2009_ hz2009_)); (try (try rw [show ((2 : Int)).toNat = 2 from rfl] at hy2009_)); (try (try rw [show ((2 : Int)).toNat = 2 from rfl] at hz2009_)); (try (have HP2009 := Kd.R_putg HO336.out (2 : Int) ((t337 / 256) % 256))))); refine store_event (t := 5) (p := 60) (v := ?_) (w1 := (w2007.setCell ⟨go1013, (2 : Int).toNat, none⟩ (.int .u8 ((t337 / 256) % 256)))) ?hg ?ho ?hn ?hr ?_; (case ho => rfl); (case hg => rfl); (case hn => rfl); (case hr => first | (go_simp; done) | (go_simp; rfl)); intro w2010 hw; have hg : w2007.grownBy w2010 (some go1013) := (by rw [hw]; exact HP2009.2); have hp_ : Kd.R (Kd.int .u8) 5 w2010 w.heap.size (fun _ => True) (.slice (some ⟨go1013, 0, none⟩) y334.length co2008) y338 := (by rw [hw, Ny338.out]; exact HP2009.1); clear HP2009; have n0_ := Aside0.mk (blk_grown (Bh BK327) hg (Kd.R_ne HO336.out BK327.out (by decide))); have n1_ := Aside0.mk (hp_); have n2_ := Aside0.mk ((by rw [hw]; exact below_set (HB.out) GB1013.out : Below w.heap.size w w2010)); clear BK327; clear HO336; clear HB; have BK327 := n0_; have HO336 := n1_; have HB := n2_; clear n0_ n1_ n2_; clear hg hw hp_; have p1015 : 0 ≤ (3 : Int) := (by omega); have q1015 : (3 : Int) < ((y334.length : Int) : Int) := of_decide_eq_true (by first | (with_reducible assumption) | assumption); have qi1015 : (3 < y334.length) = True := eq_true (by omega); obtain ⟨hx1015_0, hf1015_0⟩ := Kd.R_celln 0 HO336.out (3 : Int) p1015 q1015; (try rw [show ((3 : Int)).toNat = 3 from rfl] at hx1015_0); (try simp only [Nat.reduceMul, Nat.zero_mul, Nat.zero_add, Nat.reduceAdd] at hx1015_0); (try rw [show ((3 : Int)).toNat = 3 from rfl] at hf1015_0); (try simp only [Nat.reduceMul, Nat.zero_mul, Nat.zero_add, Nat.reduceAdd] at hf1015_0); replace p1015 := eq_true p1015; replace q1015 := eq_true q1015; obtain ⟨hy2011_, hz2011_⟩ := Kd.R_celln 0 HO336.out (3 : Int) (by omega) (of_decide_eq_true (by first | (with_reducible assumption) | assumption)); (try simp only [Int.reduceToNat, Int.toNat_zero, Int.toNat_ofNat, Nat.reduceMul, Nat.zero_mul, Nat.zero_add] at hy2011_ hz2011_); (try rw [show ((3 : Int)).toNat = 3 from rfl] at hy2011_); (try rw [show ((3 : Int)).toNat = 3 from rfl] at hz2011_); have HP2011 := Kd.R_putg HO336.out (3 : Int) ((t337) % 256)) | ((with_reducible refine gate_store (t := 5) (p := 61) rfl ?_); (try (rw [drewN_self w2010]; generalize hq_ : World.drewN w2010 _ = w2010; have n0_ := Aside0.mk (Kd.R_at hq_ HO336.out); have n1_ := Aside0.mk (blk_at hq_ BK327.out); have n2_ := Aside0.mk (below_at hq_ HB.out); clear hq_ HO336 BK327 HB; have HO336 := n0_; have BK327 := n1_; have HB := n2_; clear n0_ n1_ n2_; (try (obtain ⟨⟨hcyBK327_0, hcyBK327_1, hcyBK327_2, hcyBK327_3⟩, hfyBK327_0, hfyBK327_1, hfyBK327_2, hfyBK327_3⟩ := cells4 BK327.out)); (try (obtain ⟨hy2011_, hz2011_⟩ := Kd.R_celln 0 HO336.out (3 : Int) (by omega) (of_decide_eq_true (by first | (with_reducible assumption) | assumption)))); (try (try simp only [Int.reduceToNat, Int.toNat_zero, Int.toNat_ofNat, Nat.reduceMul, Nat.zero_mul, Nat.zero_add] at hy2011_ hz2011_)); (try (try rw [show ((3 : Int)).toNat = 3 from rfl] at hy2011_)); (try (try rw [show ((3 : Int)).toNat = 3 from rfl] at hz2011_)); (try (have HP2011 := Kd.R_putg HO336.out (3 : Int) ((t337) % 256))))); refine store_event (t := 5) (p := 61) (v := ?_) (w1 := (w2010.setCell ⟨go1013, (3 : Int).toNat, none⟩ (.int .u8 ((t337) % 256)))) ?hg ?ho ?hn ?hr ?_; (case ho => rfl); (case hg => rfl); (case hn => rfl); (case hr => first | (go_simp; done) | (go_simp; rfl)); intro w2012 hw; have hg : w2010.grownBy w2012 (some go1013) := (by rw [hw]; exact HP2011.2); have hp_ : Kd.R (Kd.int .u8) 5 w2012 w.heap.size (fun _ => True) (.slice (some ⟨go1013, 0, none⟩) y334.length co2008) y339 := (by rw [hw, Ny339.out]; exact HP2011.1); clear HP2011; have n0_ := Aside0.mk (blk_grown (Bh BK327) hg (Kd.R_ne HO336.out BK327.out (by decide))); have n1_ := Aside0.mk (hp_); have n2_ := Aside0.mk ((by rw [hw]; exact below_set (HB.out) GB1013.out : Below w.heap.size w w2012)); clear BK327; clear HO336; clear HB; have BK327 := n0_; have HO336 := n1_; have HB := n2_; clear n0_ n1_ n2_; clear hg hw hp_))
 go_ret2
 exact ⟨_, by first | rfl | (simp [errW_none, errW_some] <;> rfl) | (simp [*, errW_none, errW_some] <;> rfl), by (with_reducible repeat (first | apply Kd.R_alloc | apply Kd.R_drewN | apply Kd.R_drew)); exact HO336.out, wB⟩
 }
 {
 rw [if_neg c1014] at H
 exact absurd H (by simp)
 }
 }
 {
 rw [if_neg c1012] at H
 exact absurd H (by simp)
 }
 }
 {
 rw [if_neg c1010] at H
 exact absurd H (by simp)
 }
 }
 }
 }
 )

end Go.Proofs.Ytkfbcmbemihbnaa.PFnExactComplain
