-- Written for this claim by a program of this session (wip/mkprint.py: the print, turned at a few places). Not trusted: Lean checks it.
import Derived.Test.YtkfbcmbemihbnaaPFnExactComplainx0
import Derived.Test.YtkfbcmbemihbnaaPFnExactComplainx6
import Derived.Test.YtkfbcmbemihbnaaPFnExactComplainx7
import Derived.Test.YtkfbcmbemihbnaaPFnExactComplainx8
import Derived.Test.YtkfbcmbemihbnaaPFnExactComplainx9
namespace Go.Proofs.Ytkfbcmbemihbnaa.PFnExactComplain
open Go.RowKit Go.Proofs.YtkfbcmbemihbnaaW.PrintWords Go.Proofs.YtkfbcmbemihbnaaW.PrintLast Go.Proofs.YtkfbcmbemihbnaaW.PrintMore
attribute [local go_sem] max2_int min2_int max_two min_two max_three min_three max_four min_four   -- for this text's walks alone
set_option linter.unusedVariables false
set_option linter.unusedSimpArgs false

/-! ### impl_Complain: function 55 -/
def impl_Complain.j0 : Nat → Int → Int → Int → Int → Bool → Int → Int → Bool → Bool → Int → Int → Int → Int → Int → List Int → List Int → Option (Int × Int × Bool × Bool × Int × Int × Int × Int × Int × List Int × List Int × Int)
  | 0, _, _, _, _, _, _, _, _, _, _, _, _, _, _, _, _ => none
  | k + 1, x1, x2, x3, x4, x46, x341000, x341001, x341002, x341003, x341004, x341005, x341006, x341007, x341008, x341009, x341010 => if x46 = true then (some (0, 0, false, false, 0, 0, 0, 0, 0, ([] : List Int), ([] : List Int), 1)) else ((impl_headIP.f k x341000 x341001 x341002 x341003 x341004 x341005 x341006 x341007 x341008 x341009 x341010).bind fun t344 => (if 0 ≤ (mn 8 (x341010.length : Int)) then (if (mn 8 (x341010.length : Int)) ≤ (x341010.length : Int) then (if t344.length + (x341010.take ((mn 8 (x341010.length : Int)) : Int).toNat).length < 140737488355328 then ((impl_EncodeIcmp.f k x2 x3 x4 (t344 ++ (x341010.take ((mn 8 (x341010.length : Int)) : Int).toNat))).bind fun bt351 => (some (0, 0, false, false, 0, 64, 1, x1, x341007, ([] : List Int), bt351.1, 0))) else (none)) else (none)) else (none)))
def impl_Complain.f (k : Nat) (a0_0 : Int) (a0_1 : Int) (a0_2 : Bool) (a0_3 : Bool) (a0_4 : Int) (a0_5 : Int) (a0_6 : Int) (a0_7 : Int) (a0_8 : Int) (l0_9 : List Int) (l0_10 : List Int) (a1 : Int) (a2 : Int) (a3 : Int) (a4 : Int) : Option (Int × Int × Bool × Bool × Int × Int × Int × Int × Int × List Int × List Int × Int) := (impl_MayComplain.f a0_0 a0_1 a0_2 a0_3 a0_4 a0_5 a0_6 a0_7 a0_8 l0_9 l0_10).bind fun t342 => (if t342 = true then ((impl_isAddr.f a1).bind fun t343 => (if t343 = true then (if a2 = 3 then (if a3 < 0 then (impl_Complain.j0 k a1 a2 a3 a4 true a0_0 a0_1 a0_2 a0_3 a0_4 a0_5 a0_6 a0_7 a0_8 l0_9 l0_10) else (if a3 > 255 then (impl_Complain.j0 k a1 a2 a3 a4 true a0_0 a0_1 a0_2 a0_3 a0_4 a0_5 a0_6 a0_7 a0_8 l0_9 l0_10) else (if a4 < 0 then (impl_Complain.j0 k a1 a2 a3 a4 true a0_0 a0_1 a0_2 a0_3 a0_4 a0_5 a0_6 a0_7 a0_8 l0_9 l0_10) else (impl_Complain.j0 k a1 a2 a3 a4 (decide (a4 > 4294967295)) a0_0 a0_1 a0_2 a0_3 a0_4 a0_5 a0_6 a0_7 a0_8 l0_9 l0_10)))) else (if a2 = 11 then (if a3 < 0 then (impl_Complain.j0 k a1 a2 a3 a4 true a0_0 a0_1 a0_2 a0_3 a0_4 a0_5 a0_6 a0_7 a0_8 l0_9 l0_10) else (if a3 > 255 then (impl_Complain.j0 k a1 a2 a3 a4 true a0_0 a0_1 a0_2 a0_3 a0_4 a0_5 a0_6 a0_7 a0_8 l0_9 l0_10) else (if a4 < 0 then (impl_Complain.j0 k a1 a2 a3 a4 true a0_0 a0_1 a0_2 a0_3 a0_4 a0_5 a0_6 a0_7 a0_8 l0_9 l0_10) else (impl_Complain.j0 k a1 a2 a3 a4 (decide (a4 > 4294967295)) a0_0 a0_1 a0_2 a0_3 a0_4 a0_5 a0_6 a0_7 a0_8 l0_9 l0_10)))) else (impl_Complain.j0 k a1 a2 a3 a4 true a0_0 a0_1 a0_2 a0_3 a0_4 a0_5 a0_6 a0_7 a0_8 l0_9 l0_10))) else (impl_Complain.j0 k a1 a2 a3 a4 true a0_0 a0_1 a0_2 a0_3 a0_4 a0_5 a0_6 a0_7 a0_8 l0_9 l0_10))) else (impl_Complain.j0 k a1 a2 a3 a4 true a0_0 a0_1 a0_2 a0_3 a0_4 a0_5 a0_6 a0_7 a0_8 l0_9 l0_10))
theorem impl_Complain.mono_l : ∀ k, (∀ y0 y1 y2 y3 y4 y5 y6 y7 y8 y9 y10 y11 y12 y13 y14 y15, LeO (impl_Complain.j0 k y0 y1 y2 y3 y4 y5 y6 y7 y8 y9 y10 y11 y12 y13 y14 y15) (impl_Complain.j0 (k + 1) y0 y1 y2 y3 y4 y5 y6 y7 y8 y9 y10 y11 y12 y13 y14 y15))
  | 0 => fun _ _ _ _ _ _ _ _ _ _ _ _ _ _ _ _ r h => by simp [impl_Complain.j0] at h
  | k + 1 => by
    have ih0 := impl_Complain.mono_l k
    · intro y0 y1 y2 y3 y4 y5 y6 y7 y8 y9 y10 y11 y12 y13 y14 y15
      unfold impl_Complain.j0
      repeat' first
      | (with_reducible exact ih0 _ _ _ _ _ _ _ _ _ _ _ _ _ _ _ _)
      | (with_reducible exact impl_EncodeIcmp.mono _ _ _ _ _)
      | (with_reducible exact impl_headIP.mono _ _ _ _ _ _ _ _ _ _ _ _)
      | (with_reducible exact LeO.refl _)
      | (with_reducible exact LeO.none _)
      | (with_reducible refine LeO.ite ?_ ?_)
      | (with_reducible refine LeO.bind ?_ (fun _ => ?_))
      | exact ih0 _ _ _ _ _ _ _ _ _ _ _ _ _ _ _ _
      | exact impl_EncodeIcmp.mono _ _ _ _ _
      | exact impl_headIP.mono _ _ _ _ _ _ _ _ _ _ _ _
      | exact LeO.none _
      | refine LeO.ite ?_ ?_
      | refine LeO.bind ?_ (fun _ => ?_)
theorem impl_Complain.mono : ∀ a0 a1 a2 a3 a4 a5 a6 a7 a8 a9 a10 a11 a12 a13 a14 k, LeO (impl_Complain.f k a0 a1 a2 a3 a4 a5 a6 a7 a8 a9 a10 a11 a12 a13 a14) (impl_Complain.f (k + 1) a0 a1 a2 a3 a4 a5 a6 a7 a8 a9 a10 a11 a12 a13 a14) := by
 intro a0 a1 a2 a3 a4 a5 a6 a7 a8 a9 a10 a11 a12 a13 a14 k
 have ih0 := impl_Complain.mono_l k
 unfold impl_Complain.f
 repeat' first
     | (with_reducible exact ih0 _ _ _ _ _ _ _ _ _ _ _ _ _ _ _ _)
     | (with_reducible exact impl_EncodeIcmp.mono _ _ _ _ _)
     | (with_reducible exact impl_headIP.mono _ _ _ _ _ _ _ _ _ _ _ _)
     | (with_reducible exact LeO.refl _)
     | (with_reducible exact LeO.none _)
     | (with_reducible refine LeO.ite ?_ ?_)
     | (with_reducible refine LeO.bind ?_ (fun _ => ?_))
     | exact ih0 _ _ _ _ _ _ _ _ _ _ _ _ _ _ _ _
     | exact impl_EncodeIcmp.mono _ _ _ _ _
     | exact impl_headIP.mono _ _ _ _ _ _ _ _ _ _ _ _
     | exact LeO.none _
     | refine LeO.ite ?_ ?_
     | refine LeO.bind ?_ (fun _ => ?_)
def impl_Complain.T3 : Bool × List (List Nat × List Nat) := (true, [([], []), ([0], [0]), ([], []), ([2], [2]), ([], []), ([4], [4]), ([5], [5]), ([6], [6]), ([3, 7], [3, 7]), ([1, 8, 1], [1, 8]), ([9, 9, 0, 1, 2, 3, 4, 5, 6, 7, 8, 9], [9])])
def impl_Complain.B3 : List Nat := [0, 1, 0, 4, 0, 16, 48, 112, 252, 511, 1023]
theorem impl_Complain.tab3 : rtab .any (opsOf Try.f55 3) = impl_Complain.T3 := by kernel_rfl
theorem impl_Complain.bits3 : waitsOk impl_Complain.T3.2 impl_Complain.B3 = true := by kernel_rfl
set_option maxHeartbeats 60000000 in
set_option maxRecDepth 100000 in
theorem impl_Complain.calls (k : Nat) (a0_0 : Int) (a0_1 : Int) (a0_2 : Bool) (a0_3 : Bool) (a0_4 : Int) (a0_5 : Int) (a0_6 : Int) (a0_7 : Int) (a0_8 : Int) (A0_9 : Option Addr) (c0_9 : Nat) (l0_9 : List Int) (A0_10 : Option Addr) (c0_10 : Nat) (l0_10 : List Int) (a1 : Int) (a2 : Int) (a3 : Int) (a4 : Int) (r1 : Int) (r2 : Int) (r3 : Bool) (r4 : Bool) (r5 : Int) (r6 : Int) (r7 : Int) (r8 : Int) (r9 : Int) (r10 : List Int) (r11 : List Int) (r12 : Int) (w : World) (hr0_9 : Kd.C (Kd.int .u8) w A0_9 l0_9.length l0_9) (hc0_9 : l0_9.length ≤ c0_9) (hr0_10 : Kd.C (Kd.int .u8) w A0_10 l0_10.length l0_10) (hc0_10 : l0_10.length ≤ c0_10) (h : impl_Complain.f k a0_0 a0_1 a0_2 a0_3 a0_4 a0_5 a0_6 a0_7 a0_8 l0_9 l0_10 a1 a2 a3 a4 = some (r1, r2, r3, r4, r5, r6, r7, r8, r9, r10, r11, r12)) :
 Calls Try.prog 55 #[.agg #[.int .i64 a0_0, .int .i64 a0_1, .bool a0_2, .bool a0_3, .int .i64 a0_4, .int .i64 a0_5, .int .i64 a0_6, .int .i64 a0_7, .int .i64 a0_8, .slice A0_9 l0_9.length c0_9, .slice A0_10 l0_10.length c0_10], .int .i64 a1, .int .i64 a2, .int .i64 a3, .int .i64 a4] w fun e w' => ∃ v9_ v10_ : Value, e = .returned (.tuple #[.agg #[.int .i64 r1, .int .i64 r2, .bool r3, .bool r4, .int .i64 r5, .int .i64 r6, .int .i64 r7, .int .i64 r8, .int .i64 r9, v9_, v10_], .int .i64 r12]) ∧ Kd.R (Kd.int .u8) 5 w' w.heap.size (fun k_ => some k_ ≠ (v10_ : Value).ownBlock) v9_ r10 ∧ Kd.R (Kd.int .u8) 5 w' w.heap.size (fun k_ => some k_ ≠ (v9_ : Value).ownBlock) v10_ r11 ∧ Below w.heap.size w w' := by
 have hu51 := Try.underlying51
 have hu153 := Try.underlying153
 have HR0_9 := Aside0.mk hr0_9
 have HC0_9 := Aside0.mk hc0_9
 clear hr0_9 hc0_9
 have HR0_10 := Aside0.mk hr0_10
 have HC0_10 := Aside0.mk hc0_10
 clear hr0_10 hc0_10
 have HB := Aside0.mk (Below.refl w.heap.size w)
 have H : ((impl_MayComplain.f a0_0 a0_1 a0_2 a0_3 a0_4 a0_5 a0_6 a0_7 a0_8 l0_9 l0_10).bind fun t342 => (if t342 = true then ((impl_isAddr.f a1).bind fun t343 => (if t343 = true then (if a2 = 3 then (if a3 < 0 then (impl_Complain.j0 k a1 a2 a3 a4 true a0_0 a0_1 a0_2 a0_3 a0_4 a0_5 a0_6 a0_7 a0_8 l0_9 l0_10) else (if a3 > 255 then (impl_Complain.j0 k a1 a2 a3 a4 true a0_0 a0_1 a0_2 a0_3 a0_4 a0_5 a0_6 a0_7 a0_8 l0_9 l0_10) else (if a4 < 0 then (impl_Complain.j0 k a1 a2 a3 a4 true a0_0 a0_1 a0_2 a0_3 a0_4 a0_5 a0_6 a0_7 a0_8 l0_9 l0_10) else (impl_Complain.j0 k a1 a2 a3 a4 (decide (a4 > 4294967295)) a0_0 a0_1 a0_2 a0_3 a0_4 a0_5 a0_6 a0_7 a0_8 l0_9 l0_10)))) else (if a2 = 11 then (if a3 < 0 then (impl_Complain.j0 k a1 a2 a3 a4 true a0_0 a0_1 a0_2 a0_3 a0_4 a0_5 a0_6 a0_7 a0_8 l0_9 l0_10) else (if a3 > 255 then (impl_Complain.j0 k a1 a2 a3 a4 true a0_0 a0_1 a0_2 a0_3 a0_4 a0_5 a0_6 a0_7 a0_8 l0_9 l0_10) else (if a4 < 0 then (impl_Complain.j0 k a1 a2 a3 a4 true a0_0 a0_1 a0_2 a0_3 a0_4 a0_5 a0_6 a0_7 a0_8 l0_9 l0_10) else (impl_Complain.j0 k a1 a2 a3 a4 (decide (a4 > 4294967295)) a0_0 a0_1 a0_2 a0_3 a0_4 a0_5 a0_6 a0_7 a0_8 l0_9 l0_10)))) else (impl_Complain.j0 k a1 a2 a3 a4 true a0_0 a0_1 a0_2 a0_3 a0_4 a0_5 a0_6 a0_7 a0_8 l0_9 l0_10))) else (impl_Complain.j0 k a1 a2 a3 a4 true a0_0 a0_1 a0_2 a0_3 a0_4 a0_5 a0_6 a0_7 a0_8 l0_9 l0_10))) else (impl_Complain.j0 k a1 a2 a3 a4 true a0_0 a0_1 a0_2 a0_3 a0_4 a0_5 a0_6 a0_7 a0_8 l0_9 l0_10))) = some (r1, r2, r3, r4, r5, r6, r7, r8, r9, r10, r11, r12) := h
 clear h
 have HC6 := Aside0.mk H
 clear H
 go_enter Try.func55, Try.ntmps55
 go_upto_region 1 with (first | ((with_reducible refine gate_dst (N := 5) rfl ?_); refine box_event ?hg (N := 5) ?hd (cs := #[.int .i64 a0_0, .int .i64 a0_1, .bool a0_2, .bool a0_3, .int .i64 a0_4, .int .i64 a0_5, .int .i64 a0_6, .int .i64 a0_7, .int .i64 a0_8, .slice A0_9 l0_9.length c0_9, .slice A0_10 l0_10.length c0_10]) (t := 51) ?hr ?_; (case hd => rfl); (case hg => rfl); (case hr => first | (go_simp; done) | (go_simp; rfl)); intro gb340 hg w1001 hbox hb; have n0_ := Aside0.mk (below_step wB hb); have n1_ := Aside0.mk (hbox); have n2_ := Aside0.mk ((by rw [hg]; exact (below_size wB) : w.heap.size ≤ gb340)); have n3_ := Aside0.mk ((by rw [hg]; exact (below_size wB) : w.heap.size ≤ gb340)); clear HB; have HB := n0_; have BK340 := n1_; have GW340 := n2_; have GE340 := n3_; clear n0_ n1_ n2_ n3_; clear hb hbox hg) | ((with_reducible refine gate_dst (N := 10) rfl ?_); refine box_event ?hg (N := 10) ?hd (cs := #[.int .i64 0, .int .i64 0, .bool false, .bool false, .int .i64 0, .int .i64 0, .int .i64 0, .int .i64 0, .int .i64 0, .slice none 0 0, .slice none 0 0]) (t := 51) ?hr ?_; (case hd => rfl); (case hg => rfl); (case hr => first | (go_simp; done) | (go_simp; rfl)); intro gb341 hg w1002 hbox hb; have n0_ := Aside0.mk (blk_below (Bh BK340) hb); have n1_ := Aside0.mk (below_step wB hb); have n2_ := Aside0.mk (hbox); have n3_ := Aside0.mk ((by rw [hg]; exact (below_size wB) : w.heap.size ≤ gb341)); have n4_ := Aside0.mk ((by rw [hg]; exact (below_size wB) : w.heap.size ≤ gb341)); have n5_ := Aside0.mk ((by rw [hg]; exact Nat.ne_of_lt (blk_lt (Bh BK340)) : gb340 ≠ gb341)); have n6_ := Aside0.mk ((by rw [hg]; exact Nat.ne_of_gt (blk_lt (Bh BK340)) : gb341 ≠ gb340)); clear BK340; clear HB; have BK340 := n0_; have HB := n1_; have BK341 := n2_; have GW341 := n3_; have GE341 := n4_; have NB340_341 := n5_; have NB341_340 := n6_; clear n0_ n1_ n2_ n3_ n4_ n5_ n6_; clear hb hbox hg))
 (try simp only [Act.put, List.setIfInBounds_toArray, List.set_cons_zero, List.set_cons_succ])
 go_cut [46] (fun v46 wc => ∃ (kq : Nat) (x46_5 : Bool), v46 = .bool x46_5 ∧ Aside0 (impl_Complain.j0 kq a1 a2 a3 a4 x46_5 a0_0 a0_1 a0_2 a0_3 a0_4 a0_5 a0_6 a0_7 a0_8 l0_9 l0_10 = some (r1, r2, r3, r4, r5, r6, r7, r8, r9, r10, r11, r12)) ∧ Aside0 (kq ≤ k) ∧ Aside0 (wc.heap[gb340]? = some (.cells #[.int .i64 a0_0, .int .i64 a0_1, .bool a0_2, .bool a0_3, .int .i64 a0_4, .int .i64 a0_5, .int .i64 a0_6, .int .i64 a0_7, .int .i64 a0_8, (.slice A0_9 l0_9.length c0_9), (.slice A0_10 l0_10.length c0_10)] 51 (0, 0))) ∧ Aside0 (wc.heap[gb341]? = some (.cells #[.int .i64 0, .int .i64 0, .bool false, .bool false, .int .i64 0, .int .i64 0, .int .i64 0, .int .i64 0, .int .i64 0, (.slice none 0 0), (.slice none 0 0)] 51 (0, 0))) ∧ Aside0 (Below w.heap.size w wc))
 case first => (
 have H := HC6.out
 clear HC6
 replace H := Option.bind_eq_some_iff.mp H
 obtain ⟨t342, A10030, H⟩ := H
 replace H : (if t342 = true then ((impl_isAddr.f a1).bind fun t343 => (if t343 = true then (if a2 = 3 then (if a3 < 0 then (impl_Complain.j0 k a1 a2 a3 a4 true a0_0 a0_1 a0_2 a0_3 a0_4 a0_5 a0_6 a0_7 a0_8 l0_9 l0_10) else (if a3 > 255 then (impl_Complain.j0 k a1 a2 a3 a4 true a0_0 a0_1 a0_2 a0_3 a0_4 a0_5 a0_6 a0_7 a0_8 l0_9 l0_10) else (if a4 < 0 then (impl_Complain.j0 k a1 a2 a3 a4 true a0_0 a0_1 a0_2 a0_3 a0_4 a0_5 a0_6 a0_7 a0_8 l0_9 l0_10) else (impl_Complain.j0 k a1 a2 a3 a4 (decide (a4 > 4294967295)) a0_0 a0_1 a0_2 a0_3 a0_4 a0_5 a0_6 a0_7 a0_8 l0_9 l0_10)))) else (if a2 = 11 then (if a3 < 0 then (impl_Complain.j0 k a1 a2 a3 a4 true a0_0 a0_1 a0_2 a0_3 a0_4 a0_5 a0_6 a0_7 a0_8 l0_9 l0_10) else (if a3 > 255 then (impl_Complain.j0 k a1 a2 a3 a4 true a0_0 a0_1 a0_2 a0_3 a0_4 a0_5 a0_6 a0_7 a0_8 l0_9 l0_10) else (if a4 < 0 then (impl_Complain.j0 k a1 a2 a3 a4 true a0_0 a0_1 a0_2 a0_3 a0_4 a0_5 a0_6 a0_7 a0_8 l0_9 l0_10) else (impl_Complain.j0 k a1 a2 a3 a4 (decide (a4 > 4294967295)) a0_0 a0_1 a0_2 a0_3 a0_4 a0_5 a0_6 a0_7 a0_8 l0_9 l0_10)))) else (impl_Complain.j0 k a1 a2 a3 a4 true a0_0 a0_1 a0_2 a0_3 a0_4 a0_5 a0_6 a0_7 a0_8 l0_9 l0_10))) else (impl_Complain.j0 k a1 a2 a3 a4 true a0_0 a0_1 a0_2 a0_3 a0_4 a0_5 a0_6 a0_7 a0_8 l0_9 l0_10))) else (impl_Complain.j0 k a1 a2 a3 a4 true a0_0 a0_1 a0_2 a0_3 a0_4 a0_5 a0_6 a0_7 a0_8 l0_9 l0_10)) = some (r1, r2, r3, r4, r5, r6, r7, r8, r9, r10, r11, r12) := H
 have A1003 := Aside0.mk A10030
 clear A10030
 by_cases c1004 : t342 = true
 subst c1004
 have H1 : ((impl_isAddr.f a1).bind fun t343 => (if t343 = true then (if a2 = 3 then (if a3 < 0 then (impl_Complain.j0 k a1 a2 a3 a4 true a0_0 a0_1 a0_2 a0_3 a0_4 a0_5 a0_6 a0_7 a0_8 l0_9 l0_10) else (if a3 > 255 then (impl_Complain.j0 k a1 a2 a3 a4 true a0_0 a0_1 a0_2 a0_3 a0_4 a0_5 a0_6 a0_7 a0_8 l0_9 l0_10) else (if a4 < 0 then (impl_Complain.j0 k a1 a2 a3 a4 true a0_0 a0_1 a0_2 a0_3 a0_4 a0_5 a0_6 a0_7 a0_8 l0_9 l0_10) else (impl_Complain.j0 k a1 a2 a3 a4 (decide (a4 > 4294967295)) a0_0 a0_1 a0_2 a0_3 a0_4 a0_5 a0_6 a0_7 a0_8 l0_9 l0_10)))) else (if a2 = 11 then (if a3 < 0 then (impl_Complain.j0 k a1 a2 a3 a4 true a0_0 a0_1 a0_2 a0_3 a0_4 a0_5 a0_6 a0_7 a0_8 l0_9 l0_10) else (if a3 > 255 then (impl_Complain.j0 k a1 a2 a3 a4 true a0_0 a0_1 a0_2 a0_3 a0_4 a0_5 a0_6 a0_7 a0_8 l0_9 l0_10) else (if a4 < 0 then (impl_Complain.j0 k a1 a2 a3 a4 true a0_0 a0_1 a0_2 a0_3 a0_4 a0_5 a0_6 a0_7 a0_8 l0_9 l0_10) else (impl_Complain.j0 k a1 a2 a3 a4 (decide (a4 > 4294967295)) a0_0 a0_1 a0_2 a0_3 a0_4 a0_5 a0_6 a0_7 a0_8 l0_9 l0_10)))) else (impl_Complain.j0 k a1 a2 a3 a4 true a0_0 a0_1 a0_2 a0_3 a0_4 a0_5 a0_6 a0_7 a0_8 l0_9 l0_10))) else (impl_Complain.j0 k a1 a2 a3 a4 true a0_0 a0_1 a0_2 a0_3 a0_4 a0_5 a0_6 a0_7 a0_8 l0_9 l0_10))) = some (r1, r2, r3, r4, r5, r6, r7, r8, r9, r10, r11, r12) := by rw [if_pos rfl] at H; exact H
 clear H
 have H := H1
 clear H1
 replace H := Option.bind_eq_some_iff.mp H
 obtain ⟨t343, A10050, H⟩ := H
 replace H : (if t343 = true then (if a2 = 3 then (if a3 < 0 then (impl_Complain.j0 k a1 a2 a3 a4 true a0_0 a0_1 a0_2 a0_3 a0_4 a0_5 a0_6 a0_7 a0_8 l0_9 l0_10) else (if a3 > 255 then (impl_Complain.j0 k a1 a2 a3 a4 true a0_0 a0_1 a0_2 a0_3 a0_4 a0_5 a0_6 a0_7 a0_8 l0_9 l0_10) else (if a4 < 0 then (impl_Complain.j0 k a1 a2 a3 a4 true a0_0 a0_1 a0_2 a0_3 a0_4 a0_5 a0_6 a0_7 a0_8 l0_9 l0_10) else (impl_Complain.j0 k a1 a2 a3 a4 (decide (a4 > 4294967295)) a0_0 a0_1 a0_2 a0_3 a0_4 a0_5 a0_6 a0_7 a0_8 l0_9 l0_10)))) else (if a2 = 11 then (if a3 < 0 then (impl_Complain.j0 k a1 a2 a3 a4 true a0_0 a0_1 a0_2 a0_3 a0_4 a0_5 a0_6 a0_7 a0_8 l0_9 l0_10) else (if a3 > 255 then (impl_Complain.j0 k a1 a2 a3 a4 true a0_0 a0_1 a0_2 a0_3 a0_4 a0_5 a0_6 a0_7 a0_8 l0_9 l0_10) else (if a4 < 0 then (impl_Complain.j0 k a1 a2 a3 a4 true a0_0 a0_1 a0_2 a0_3 a0_4 a0_5 a0_6 a0_7 a0_8 l0_9 l0_10) else (impl_Complain.j0 k a1 a2 a3 a4 (decide (a4 > 4294967295)) a0_0 a0_1 a0_2 a0_3 a0_4 a0_5 a0_6 a0_7 a0_8 l0_9 l0_10)))) else (impl_Complain.j0 k a1 a2 a3 a4 true a0_0 a0_1 a0_2 a0_3 a0_4 a0_5 a0_6 a0_7 a0_8 l0_9 l0_10))) else (impl_Complain.j0 k a1 a2 a3 a4 true a0_0 a0_1 a0_2 a0_3 a0_4 a0_5 a0_6 a0_7 a0_8 l0_9 l0_10)) = some (r1, r2, r3, r4, r5, r6, r7, r8, r9, r10, r11, r12) := H
 have A1005 := Aside0.mk A10050
 clear A10050
 by_cases c1006 : t343 = true
 subst c1006
 have H1 : (if a2 = 3 then (if a3 < 0 then (impl_Complain.j0 k a1 a2 a3 a4 true a0_0 a0_1 a0_2 a0_3 a0_4 a0_5 a0_6 a0_7 a0_8 l0_9 l0_10) else (if a3 > 255 then (impl_Complain.j0 k a1 a2 a3 a4 true a0_0 a0_1 a0_2 a0_3 a0_4 a0_5 a0_6 a0_7 a0_8 l0_9 l0_10) else (if a4 < 0 then (impl_Complain.j0 k a1 a2 a3 a4 true a0_0 a0_1 a0_2 a0_3 a0_4 a0_5 a0_6 a0_7 a0_8 l0_9 l0_10) else (impl_Complain.j0 k a1 a2 a3 a4 (decide (a4 > 4294967295)) a0_0 a0_1 a0_2 a0_3 a0_4 a0_5 a0_6 a0_7 a0_8 l0_9 l0_10)))) else (if a2 = 11 then (if a3 < 0 then (impl_Complain.j0 k a1 a2 a3 a4 true a0_0 a0_1 a0_2 a0_3 a0_4 a0_5 a0_6 a0_7 a0_8 l0_9 l0_10) else (if a3 > 255 then (impl_Complain.j0 k a1 a2 a3 a4 true a0_0 a0_1 a0_2 a0_3 a0_4 a0_5 a0_6 a0_7 a0_8 l0_9 l0_10) else (if a4 < 0 then (impl_Complain.j0 k a1 a2 a3 a4 true a0_0 a0_1 a0_2 a0_3 a0_4 a0_5 a0_6 a0_7 a0_8 l0_9 l0_10) else (impl_Complain.j0 k a1 a2 a3 a4 (decide (a4 > 4294967295)) a0_0 a0_1 a0_2 a0_3 a0_4 a0_5 a0_6 a0_7 a0_8 l0_9 l0_10)))) else (impl_Complain.j0 k a1 a2 a3 a4 true a0_0 a0_1 a0_2 a0_3 a0_4 a0_5 a0_6 a0_7 a0_8 l0_9 l0_10))) = some (r1, r2, r3, r4, r5, r6, r7, r8, r9, r10, r11, r12) := by rw [if_pos rfl] at H; exact H
 clear H
 have H := H1
 clear H1
 by_cases c1007 : a2 = 3
 rw [if_pos c1007] at H
 have c1007b0 : (a2 == 3) = true := beq_iff_eq.mpr c1007
 have c1007b1 : (a2 != 3) = false := bne_eq_false_iff_eq.mpr c1007
 clear c1007
 (first | rw [c1007b0] | (simp only [i64_w, i32_w]; rw [c1007b0]) | skip)
 by_cases c1008 : a3 < 0
 rw [if_pos c1008] at H
 have c1008b0 : decide (a3 < 0) = true := decide_eq_true c1008
 clear c1008
 have H' := Aside0.mk H
 clear H
 rotate_left
 rw [if_neg c1008] at H
 have c1008b0 : decide (a3 < 0) = false := decide_eq_false c1008
 clear c1008
 by_cases c1009 : a3 > 255
 rw [if_pos c1009] at H
 have c1009b0 : decide (255 < a3) = true := decide_eq_true c1009
 clear c1009
 have H' := Aside0.mk H
 clear H
 rotate_left
 rw [if_neg c1009] at H
 have c1009b0 : decide (255 < a3) = false := decide_eq_false c1009
 clear c1009
 by_cases c1010 : a4 < 0
 rw [if_pos c1010] at H
 have c1010b0 : decide (a4 < 0) = true := decide_eq_true c1010
 clear c1010
 have H' := Aside0.mk H
 clear H
 rotate_left
 rw [if_neg c1010] at H
 have c1010b0 : decide (a4 < 0) = false := decide_eq_false c1010
 clear c1010
 have H' := Aside0.mk H
 clear H
 rotate_left
 rw [if_neg c1007] at H
 have c1007b0 : (a2 == 3) = false := beq_eq_false_iff_ne.mpr c1007
 have c1007b1 : (a2 != 3) = true := bne_iff_ne.mpr c1007
 (first | rw [c1007b0] | (simp only [i64_w, i32_w]; rw [c1007b0]) | skip)
 by_cases c1011 : a2 = 11
 rw [if_pos c1011] at H
 have c1011b0 : (a2 == 11) = true := beq_iff_eq.mpr c1011
 have c1011b1 : (a2 != 11) = false := bne_eq_false_iff_eq.mpr c1011
 clear c1011
 by_cases c1012 : a3 < 0
 rw [if_pos c1012] at H
 have c1012b0 : decide (a3 < 0) = true := decide_eq_true c1012
 clear c1012
 have H' := Aside0.mk H
 clear H
 rotate_left
 rw [if_neg c1012] at H
 have c1012b0 : decide (a3 < 0) = false := decide_eq_false c1012
 clear c1012
 by_cases c1013 : a3 > 255
 rw [if_pos c1013] at H
 have c1013b0 : decide (255 < a3) = true := decide_eq_true c1013
 clear c1013
 have H' := Aside0.mk H
 clear H
 rotate_left
 rw [if_neg c1013] at H
 have c1013b0 : decide (255 < a3) = false := decide_eq_false c1013
 clear c1013
 by_cases c1014 : a4 < 0
 rw [if_pos c1014] at H
 have c1014b0 : decide (a4 < 0) = true := decide_eq_true c1014
 clear c1014
 have H' := Aside0.mk H
 clear H
 rotate_left
 rw [if_neg c1014] at H
 have c1014b0 : decide (a4 < 0) = false := decide_eq_false c1014
 clear c1014
 have H' := Aside0.mk H
 clear H
 rotate_left
 rw [if_neg c1011] at H
 have c1011b0 : (a2 == 11) = false := beq_eq_false_iff_ne.mpr c1011
 have c1011b1 : (a2 != 11) = true := bne_iff_ne.mpr c1011
 have H' := Aside0.mk H
 clear H
 rotate_left
 replace c1006 := Bool.eq_false_iff.mpr c1006
 subst c1006
 have H1 : (impl_Complain.j0 k a1 a2 a3 a4 true a0_0 a0_1 a0_2 a0_3 a0_4 a0_5 a0_6 a0_7 a0_8 l0_9 l0_10) = some (r1, r2, r3, r4, r5, r6, r7, r8, r9, r10, r11, r12) := by rw [if_neg (show ¬ (false = true) by decide)] at H; exact H
 clear H
 have H := H1
 clear H1
 have H' := Aside0.mk H
 clear H
 rotate_left
 replace c1004 := Bool.eq_false_iff.mpr c1004
 subst c1004
 have H1 : (impl_Complain.j0 k a1 a2 a3 a4 true a0_0 a0_1 a0_2 a0_3 a0_4 a0_5 a0_6 a0_7 a0_8 l0_9 l0_10) = some (r1, r2, r3, r4, r5, r6, r7, r8, r9, r10, r11, r12) := by rw [if_neg (show ¬ (false = true) by decide)] at H; exact H
 clear H
 have H := H1
 clear H1
 have H' := Aside0.mk H
 clear H
 rotate_left
 all_goals (
 have hnb2001 := NB340_341.out
 have hnc2001 := NB341_340.out
 obtain ⟨⟨hcz2002_0, hcz2002_1, hcz2002_2, hcz2002_3, hcz2002_4, hcz2002_5, hcz2002_6, hcz2002_7, hcz2002_8, hcz2002_9, hcz2002_10⟩, hfz2002_0, hfz2002_1, hfz2002_2, hfz2002_3, hfz2002_4, hfz2002_5, hfz2002_6, hfz2002_7, hfz2002_8, hfz2002_9, hfz2002_10⟩ := cells11 BK340.out
 go_wp2_with (first | ((with_reducible refine gate_callee (f := 115) rfl ?_); refine goesL_ (some 16) rfl rfl Try.func115 (by kernel_rfl) rfl #[.agg #[.int .i64 a0_0, .int .i64 a0_1, .bool a0_2, .bool a0_3, .int .i64 a0_4, .int .i64 a0_5, .int .i64 a0_6, .int .i64 a0_7, .int .i64 a0_8, .slice A0_9 l0_9.length c0_9, .slice A0_10 l0_10.length c0_10]] rfl wT ?_; (with_reducible refine (impl_MayComplain.calls a0_0 a0_1 a0_2 a0_3 a0_4 a0_5 a0_6 a0_7 a0_8 _ _ l0_9 _ _ l0_10 _ _ ?side1 ?side2 ?side3 ?side4 A1003.out).mono ?_); (case side1 => exact Kd.C_below HR0_9.out wB); (case side2 => exact HC0_9.out); (case side3 => exact Kd.C_below HR0_10.out wB); (case side4 => exact HC0_10.out); rintro e w2003 ⟨rfl, hb⟩; refine ⟨_, rfl, ?_⟩; have n0_ := Aside0.mk (blk_below (Bh BK340) hb); have n1_ := Aside0.mk (blk_below (Bh BK341) hb); have n2_ := Aside0.mk (below_step wB hb); clear BK340; clear BK341; clear HB; have BK340 := n0_; have BK341 := n1_; have HB := n2_; clear n0_ n1_ n2_; (try clear hb); (try clear hb2); (try clear hk); (try clear hi)) | (go_at_call 116; (with_reducible refine (impl_isAddr.calls a1 _ _ A1005.out).mono ?_); rintro e w' ⟨rfl, ⟨nd, rfl⟩⟩))
 go_meet
 )
 iterate 3 (
 focus (
 case rel => exact ⟨_, (true), (by first | rfl | (simp; done) | (simp [*]; done)), H', ⟨by first | omega | exact Nat.le_refl _⟩, ⟨Bh BK340⟩, ⟨Bh BK341⟩, ⟨wB⟩⟩
 )
 )
 {
 case rel => exact ⟨_, (decide (a4 > 4294967295)), (by first | rfl | (simp; done) | (simp [*]; done)), H', ⟨by first | omega | exact Nat.le_refl _⟩, ⟨Bh BK340⟩, ⟨Bh BK341⟩, ⟨wB⟩⟩
 }
 iterate 3 (
 focus (
 case rel => exact ⟨_, (true), (by first | rfl | (simp; done) | (simp [*]; done)), H', ⟨by first | omega | exact Nat.le_refl _⟩, ⟨Bh BK340⟩, ⟨Bh BK341⟩, ⟨wB⟩⟩
 )
 )
 {
 case rel => exact ⟨_, (decide (a4 > 4294967295)), (by first | rfl | (simp; done) | (simp [*]; done)), H', ⟨by first | omega | exact Nat.le_refl _⟩, ⟨Bh BK340⟩, ⟨Bh BK341⟩, ⟨wB⟩⟩
 }
 all_goals (
 case rel => exact ⟨_, (true), (by first | rfl | (simp; done) | (simp [*]; done)), H', ⟨by first | omega | exact Nat.le_refl _⟩, ⟨Bh BK340⟩, ⟨Bh BK341⟩, ⟨wB⟩⟩
 )
 )
 case rest => (
 clear HC6
 try clear c0
 try clear c1004
 try clear c1006
 try clear c1007
 try clear c1007b0
 try clear c1007b1
 try clear c1008
 try clear c1008b0
 try clear c1009
 try clear c1009b0
 try clear c1010
 try clear c1010b0
 try clear c1011
 try clear c1011b0
 try clear c1011b1
 try clear c1012
 try clear c1012b0
 try clear c1013
 try clear c1013b0
 try clear c1014
 try clear c1014b0
 try clear hcz2002_0 hcz2002_1 hcz2002_10 hcz2002_2 hcz2002_3 hcz2002_4 hcz2002_5 hcz2002_6 hcz2002_7 hcz2002_8 hcz2002_9 hfz2002_0 hfz2002_1 hfz2002_10 hfz2002_2 hfz2002_3 hfz2002_4 hfz2002_5 hfz2002_6 hfz2002_7 hfz2002_8 hfz2002_9
 obtain ⟨kq, x46_5, rfl, HA, HJ5, BK340, BK341, HB⟩ := hcut
 cases kq with
 | zero => exact absurd HA.out (by simp [impl_Complain.j0])
 | succ kj5 => {
 have H := HA.out
 clear HA
 simp only [impl_Complain.j0] at H
 by_cases c1015 : x46_5 = true
 {
 subst c1015
 have H1 : (some (0, 0, false, false, 0, 0, 0, 0, 0, ([] : List Int), ([] : List Int), 1)) = some (r1, r2, r3, r4, r5, r6, r7, r8, r9, r10, r11, r12) := by rw [if_pos rfl] at H; exact H
 clear H
 have H := H1
 clear H1
 simp only [Option.some.injEq, Prod.mk.injEq] at H
 obtain ⟨rfl, rfl, rfl, rfl, rfl, rfl, rfl, rfl, rfl, rfl, rfl, rfl⟩ := H
 have hnb2001 := NB341_340.out
 have hnc2001 := NB340_341.out
 obtain ⟨⟨hcz2002_0, hcz2002_1, hcz2002_2, hcz2002_3, hcz2002_4, hcz2002_5, hcz2002_6, hcz2002_7, hcz2002_8, hcz2002_9, hcz2002_10⟩, hfz2002_0, hfz2002_1, hfz2002_2, hfz2002_3, hfz2002_4, hfz2002_5, hfz2002_6, hfz2002_7, hfz2002_8, hfz2002_9, hfz2002_10⟩ := cells11 BK341.out
 go_wp2_with (first | ((with_reducible refine gate_store (t := 51) (p := 10) rfl ?_); (try (rw [drewN_self wc]; generalize hq_ : World.drewN wc _ = wc; have n0_ := Aside0.mk (blk_at hq_ BK340.out); have n1_ := Aside0.mk (blk_at hq_ BK341.out); have n2_ := Aside0.mk (below_at hq_ HB.out); clear hq_ BK340 BK341 HB; have BK340 := n0_; have BK341 := n1_; have HB := n2_; clear n0_ n1_ n2_; (try (obtain ⟨⟨hcyBK340_0, hcyBK340_1, hcyBK340_2, hcyBK340_3, hcyBK340_4, hcyBK340_5, hcyBK340_6, hcyBK340_7, hcyBK340_8, hcyBK340_9, hcyBK340_10⟩, hfyBK340_0, hfyBK340_1, hfyBK340_2, hfyBK340_3, hfyBK340_4, hfyBK340_5, hfyBK340_6, hfyBK340_7, hfyBK340_8, hfyBK340_9, hfyBK340_10⟩ := cells11 BK340.out)); (try (obtain ⟨⟨hcyBK341_0, hcyBK341_1, hcyBK341_2, hcyBK341_3, hcyBK341_4, hcyBK341_5, hcyBK341_6, hcyBK341_7, hcyBK341_8, hcyBK341_9, hcyBK341_10⟩, hfyBK341_0, hfyBK341_1, hfyBK341_2, hfyBK341_3, hfyBK341_4, hfyBK341_5, hfyBK341_6, hfyBK341_7, hfyBK341_8, hfyBK341_9, hfyBK341_10⟩ := cells11 BK341.out)))); refine store_event (t := 51) (p := 10) (v := ?_) (w1 := (((((((((((wc.setCell ⟨gb341, 0, none⟩ (.int .i64 0)).setCell ⟨gb341, 1, none⟩ (.int .i64 0)).setCell ⟨gb341, 2, none⟩ (.bool false)).setCell ⟨gb341, 3, none⟩ (.bool false)).setCell ⟨gb341, 4, none⟩ (.int .i64 0)).setCell ⟨gb341, 5, none⟩ (.int .i64 0)).setCell ⟨gb341, 6, none⟩ (.int .i64 0)).setCell ⟨gb341, 7, none⟩ (.int .i64 0)).setCell ⟨gb341, 8, none⟩ (.int .i64 0)).setCell ⟨gb341, 9, none⟩ (.slice none 0 0)).setCell ⟨gb341, 10, none⟩ (.slice none 0 0))) ?hg ?ho ?hn ?hr ?_; (case ho => rfl); (case hg => rfl); (case hn => rfl); (case hr => first | (go_simp; done) | (go_simp; rfl)); intro w2003 hw; have n0_ : Aside0 (w2003.heap[gb340]? = some (.cells #[.int .i64 a0_0, .int .i64 a0_1, .bool a0_2, .bool a0_3, .int .i64 a0_4, .int .i64 a0_5, .int .i64 a0_6, .int .i64 a0_7, .int .i64 a0_8, .slice A0_9 l0_9.length c0_9, .slice A0_10 l0_10.length c0_10] 51 (0, 0))) := ⟨(by rw [hw]; exact (by (with_reducible repeat (first | refine blk_drewN ?_ _ | refine blk_drew ?_ | refine blk_alloc ?_ _)); refine blk_far ?_ NB340_341.out _; (with_reducible repeat (first | refine blk_drewN ?_ _ | refine blk_drew ?_ | refine blk_alloc ?_ _)); refine blk_far ?_ NB340_341.out _; (with_reducible repeat (first | refine blk_drewN ?_ _ | refine blk_drew ?_ | refine blk_alloc ?_ _)); refine blk_far ?_ NB340_341.out _; (with_reducible repeat (first | refine blk_drewN ?_ _ | refine blk_drew ?_ | refine blk_alloc ?_ _)); refine blk_far ?_ NB340_341.out _; (with_reducible repeat (first | refine blk_drewN ?_ _ | refine blk_drew ?_ | refine blk_alloc ?_ _)); refine blk_far ?_ NB340_341.out _; (with_reducible repeat (first | refine blk_drewN ?_ _ | refine blk_drew ?_ | refine blk_alloc ?_ _)); refine blk_far ?_ NB340_341.out _; (with_reducible repeat (first | refine blk_drewN ?_ _ | refine blk_drew ?_ | refine blk_alloc ?_ _)); refine blk_far ?_ NB340_341.out _; (with_reducible repeat (first | refine blk_drewN ?_ _ | refine blk_drew ?_ | refine blk_alloc ?_ _)); refine blk_far ?_ NB340_341.out _; (with_reducible repeat (first | refine blk_drewN ?_ _ | refine blk_drew ?_ | refine blk_alloc ?_ _)); refine blk_far ?_ NB340_341.out _; (with_reducible repeat (first | refine blk_drewN ?_ _ | refine blk_drew ?_ | refine blk_alloc ?_ _)); refine blk_far ?_ NB340_341.out _; (with_reducible repeat (first | refine blk_drewN ?_ _ | refine blk_drew ?_ | refine blk_alloc ?_ _)); refine blk_far ?_ NB340_341.out _; (with_reducible repeat (first | refine blk_drewN ?_ _ | refine blk_drew ?_ | refine blk_alloc ?_ _)); exact BK340.out))⟩; have n1_ : Aside0 (w2003.heap[gb341]? = some (.cells #[.int .i64 0, .int .i64 0, .bool false, .bool false, .int .i64 0, .int .i64 0, .int .i64 0, .int .i64 0, .int .i64 0, .slice none 0 0, .slice none 0 0] 51 (0, 0))) := ⟨(by rw [hw]; exact (by (with_reducible repeat (first | refine blk_drewN ?_ _ | refine blk_drew ?_ | refine blk_alloc ?_ _)); refine blk_put (cs := #[.int .i64 0, .int .i64 0, .bool false, .bool false, .int .i64 0, .int .i64 0, .int .i64 0, .int .i64 0, .int .i64 0, .slice none 0 0, .slice none 0 0]) ?_ 10 _ rfl; (with_reducible repeat (first | refine blk_drewN ?_ _ | refine blk_drew ?_ | refine blk_alloc ?_ _)); refine blk_put (cs := #[.int .i64 0, .int .i64 0, .bool false, .bool false, .int .i64 0, .int .i64 0, .int .i64 0, .int .i64 0, .int .i64 0, .slice none 0 0, .slice none 0 0]) ?_ 9 _ rfl; (with_reducible repeat (first | refine blk_drewN ?_ _ | refine blk_drew ?_ | refine blk_alloc ?_ _)); refine blk_put (cs := #[.int .i64 0, .int .i64 0, .bool false, .bool false, .int .i64 0, .int .i64 0, .int .i64 0, .int .i64 0, .int .i64 0, .slice none 0 0, .slice none 0 0]) ?_ 8 _ rfl; (with_reducible repeat (first | refine blk_drewN ?_ _ | refine blk_drew ?_ | refine blk_alloc ?_ _)); refine blk_put (cs := #[.int .i64 0, .int .i64 0, .bool false, .bool false, .int .i64 0, .int .i64 0, .int .i64 0, .int .i64 0, .int .i64 0, .slice none 0 0, .slice none 0 0]) ?_ 7 _ rfl; (with_reducible repeat (first | refine blk_drewN ?_ _ | refine blk_drew ?_ | refine blk_alloc ?_ _)); refine blk_put (cs := #[.int .i64 0, .int .i64 0, .bool false, .bool false, .int .i64 0, .int .i64 0, .int .i64 0, .int .i64 0, .int .i64 0, .slice none 0 0, .slice none 0 0]) ?_ 6 _ rfl; (with_reducible repeat (first | refine blk_drewN ?_ _ | refine blk_drew ?_ | refine blk_alloc ?_ _)); refine blk_put (cs := #[.int .i64 0, .int .i64 0, .bool false, .bool false, .int .i64 0, .int .i64 0, .int .i64 0, .int .i64 0, .int .i64 0, .slice none 0 0, .slice none 0 0]) ?_ 5 _ rfl; (with_reducible repeat (first | refine blk_drewN ?_ _ | refine blk_drew ?_ | refine blk_alloc ?_ _)); refine blk_put (cs := #[.int .i64 0, .int .i64 0, .bool false, .bool false, .int .i64 0, .int .i64 0, .int .i64 0, .int .i64 0, .int .i64 0, .slice none 0 0, .slice none 0 0]) ?_ 4 _ rfl; (with_reducible repeat (first | refine blk_drewN ?_ _ | refine blk_drew ?_ | refine blk_alloc ?_ _)); refine blk_put (cs := #[.int .i64 0, .int .i64 0, .bool false, .bool false, .int .i64 0, .int .i64 0, .int .i64 0, .int .i64 0, .int .i64 0, .slice none 0 0, .slice none 0 0]) ?_ 3 _ rfl; (with_reducible repeat (first | refine blk_drewN ?_ _ | refine blk_drew ?_ | refine blk_alloc ?_ _)); refine blk_put (cs := #[.int .i64 0, .int .i64 0, .bool false, .bool false, .int .i64 0, .int .i64 0, .int .i64 0, .int .i64 0, .int .i64 0, .slice none 0 0, .slice none 0 0]) ?_ 2 _ rfl; (with_reducible repeat (first | refine blk_drewN ?_ _ | refine blk_drew ?_ | refine blk_alloc ?_ _)); refine blk_put (cs := #[.int .i64 0, .int .i64 0, .bool false, .bool false, .int .i64 0, .int .i64 0, .int .i64 0, .int .i64 0, .int .i64 0, .slice none 0 0, .slice none 0 0]) ?_ 1 _ rfl; (with_reducible repeat (first | refine blk_drewN ?_ _ | refine blk_drew ?_ | refine blk_alloc ?_ _)); refine blk_put (cs := #[.int .i64 0, .int .i64 0, .bool false, .bool false, .int .i64 0, .int .i64 0, .int .i64 0, .int .i64 0, .int .i64 0, .slice none 0 0, .slice none 0 0]) ?_ 0 _ rfl; (with_reducible repeat (first | refine blk_drewN ?_ _ | refine blk_drew ?_ | refine blk_alloc ?_ _)); exact BK341.out))⟩; have n2_ : Aside0 (Below w.heap.size w w2003) := ⟨(by rw [hw]; exact wB)⟩; clear hw; clear BK340; clear BK341; clear HB; have BK340 := n0_; have BK341 := n1_; have HB := n2_; clear n0_ n1_ n2_))
 refine bodyPost_ret (results_ct rfl _ _ gb341 51 #[.int .i64 0, .int .i64 0, .bool false, .bool false, .int .i64 0, .int .i64 0, .int .i64 0, .int .i64 0, .int .i64 0, .slice none 0 0, .slice none 0 0] (0, 0) _ rfl (Bh BK341) Try.underlying51 rfl (by kernel_rfl)) rfl ?_
 exact ⟨_, _, by first | rfl | (simp [errW_none, errW_some] <;> rfl) | (simp [*, errW_none, errW_some] <;> rfl), by first | exact Kd.R_nil _ _ _ _ _ | exact Kd.N_nil _ _ _ _ _ | exact Kd.V_nil _ _ _ _ _ | exact Kd.Q_nil _ _ _ _ _ | exact Kd.S_nil _ _ _ _ _, by first | exact Kd.R_nil _ _ _ _ _ | exact Kd.N_nil _ _ _ _ _ | exact Kd.V_nil _ _ _ _ _ | exact Kd.Q_nil _ _ _ _ _ | exact Kd.S_nil _ _ _ _ _, wB⟩
 }
 {
 replace c1015 := Bool.eq_false_iff.mpr c1015
 subst c1015
 have H1 : ((impl_headIP.f kj5 a0_0 a0_1 a0_2 a0_3 a0_4 a0_5 a0_6 a0_7 a0_8 l0_9 l0_10).bind fun t344 => (if 0 ≤ (mn 8 (l0_10.length : Int)) then (if (mn 8 (l0_10.length : Int)) ≤ (l0_10.length : Int) then (if t344.length + (l0_10.take ((mn 8 (l0_10.length : Int)) : Int).toNat).length < 140737488355328 then ((impl_EncodeIcmp.f kj5 a2 a3 a4 (t344 ++ (l0_10.take ((mn 8 (l0_10.length : Int)) : Int).toNat))).bind fun bt351 => (some (0, 0, false, false, 0, 64, 1, a1, a0_7, ([] : List Int), bt351.1, 0))) else (none)) else (none)) else (none))) = some (r1, r2, r3, r4, r5, r6, r7, r8, r9, r10, r11, r12) := by rw [if_neg (show ¬ (false = true) by decide)] at H; exact H
 clear H
 have H := H1
 clear H1
 replace H := Option.bind_eq_some_iff.mp H
 obtain ⟨t344, A10160, H⟩ := H
 replace H : (if 0 ≤ (mn 8 (l0_10.length : Int)) then (if (mn 8 (l0_10.length : Int)) ≤ (l0_10.length : Int) then (if t344.length + (l0_10.take ((mn 8 (l0_10.length : Int)) : Int).toNat).length < 140737488355328 then ((impl_EncodeIcmp.f kj5 a2 a3 a4 (t344 ++ (l0_10.take ((mn 8 (l0_10.length : Int)) : Int).toNat))).bind fun bt351 => (some (0, 0, false, false, 0, 64, 1, a1, a0_7, ([] : List Int), bt351.1, 0))) else (none)) else (none)) else (none)) = some (r1, r2, r3, r4, r5, r6, r7, r8, r9, r10, r11, r12) := H
 have A1016 := Aside0.mk A10160
 clear A10160
 obtain ⟨ji1017, hji1017⟩ : ∃ j_ : Int, (mn 8 (l0_10.length : Int)) = j_ := ⟨_, rfl⟩
 replace H : (if 0 ≤ (ji1017) then (if (ji1017) ≤ (l0_10.length : Int) then (if t344.length + (l0_10.take ((ji1017) : Int).toNat).length < 140737488355328 then ((impl_EncodeIcmp.f kj5 a2 a3 a4 (t344 ++ (l0_10.take ((ji1017) : Int).toNat))).bind fun bt351 => (some (0, 0, false, false, 0, 64, 1, a1, a0_7, ([] : List Int), bt351.1, 0))) else (none)) else (none)) else (none)) = some (r1, r2, r3, r4, r5, r6, r7, r8, r9, r10, r11, r12) := by first | (rw [hji1017] at H; exact H) | (simp only [hji1017] at H ⊢; exact H)
 (try rw [hji1017] at A1016)
 have hji1017_ : (if (l0_10.length : Int) < 8 then (l0_10.length : Int) else 8) = ji1017 := hji1017
 by_cases c1018 : 0 ≤ (ji1017)
 {
 rw [if_pos c1018] at H
 have c1018b0 := eq_true c1018
 have c1018b1 : decide (0 ≤ (ji1017)) = true := decide_eq_true c1018
 clear c1018
 by_cases c1019 : (ji1017) ≤ (l0_10.length : Int)
 {
 rw [if_pos c1019] at H
 have c1019b0 := eq_true c1019
 have c1019b1 : decide ((ji1017) ≤ (l0_10.length : Int)) = true := decide_eq_true c1019
 clear c1019
 by_cases c1020 : t344.length + (l0_10.take ((ji1017) : Int).toNat).length < 140737488355328
 {
 rw [if_pos c1020] at H
 have LMc1020 := Aside0.mk c1020
 clear c1020
 obtain ⟨y348, hy348⟩ : ∃ y_ : List Int, y_ = (t344 ++ (l0_10.take ((ji1017) : Int).toNat)) := ⟨_, rfl⟩
 replace H : ((impl_EncodeIcmp.f kj5 a2 a3 a4 y348).bind fun bt351 => (some (0, 0, false, false, 0, 64, 1, a1, a0_7, ([] : List Int), bt351.1, 0))) = some (r1, r2, r3, r4, r5, r6, r7, r8, r9, r10, r11, r12) := by first | (rw [hy348]; with_reducible exact H) | (have H2_ := (Option.bind_some _ _).symm.trans H; rw [hy348]; with_reducible exact H2_) | (have H2_ := (Option.bind_some _ _).symm.trans H; with_reducible exact H2_) | with_reducible exact H | (rw [hy348]; exact H) | exact H
 have Ny348 := Aside0.mk hy348
 clear hy348
 replace H := Option.bind_eq_some_iff.mp H
 obtain ⟨⟨t351, t354⟩, A10210, H⟩ := H
 replace H : (some (0, 0, false, false, 0, 64, 1, a1, a0_7, ([] : List Int), t351, 0)) = some (r1, r2, r3, r4, r5, r6, r7, r8, r9, r10, r11, r12) := H
 have A1021 := Aside0.mk A10210
 clear A10210
 simp only [Option.some.injEq, Prod.mk.injEq] at H
 obtain ⟨rfl, rfl, rfl, rfl, rfl, rfl, rfl, rfl, rfl, rfl, rfl, rfl⟩ := H
 try go_wp2
 have n0_ := Aside0.mk (blk_drew BK340.out)
 have n1_ := Aside0.mk (blk_drew BK341.out)
 have n2_ := Aside0.mk (below_drew1 HB.out)
 clear BK340
 clear BK341
 clear HB
 have BK340 := n0_
 have BK341 := n1_
 have HB := n2_
 clear n0_ n1_ n2_
 obtain ⟨i02002, hi02002, _, hsz2002, _⟩ := info_parts info5
 obtain ⟨hcut2002, hA2002, hC2002⟩ := print_take_of (P := Try.prog) (Value.int .u8) 0 22 5 .i64 Try.underlying22 hi02002 hsz2002 A0_10 c0_10 l0_10 (ji1017) (of_decide_eq_true (by first | (with_reducible assumption) | assumption)) (of_decide_eq_true (by first | (with_reducible assumption) | assumption)) HC0_10.out
 have HR347 := Aside0.mk (Kd.C_of_reads (h1 := fun _ => rfl) (hA2002 _ (Kd.reads_of_C HR0_10.out)))
 have HC347 := Aside0.mk hC2002
 clear hA2002 hC2002 hi02002 hsz2002
 refine start_ (n := 11) (S := fun w' => w'.cell? ⟨gb340, 0, none⟩ = some (.int .i64 a0_0) ∧ w'.cell? ⟨gb340, 1, none⟩ = some (.int .i64 a0_1) ∧ w'.cell? ⟨gb340, 2, none⟩ = some (.bool a0_2) ∧ w'.cell? ⟨gb340, 3, none⟩ = some (.bool a0_3) ∧ w'.cell? ⟨gb340, 4, none⟩ = some (.int .i64 a0_4) ∧ w'.cell? ⟨gb340, 5, none⟩ = some (.int .i64 a0_5) ∧ w'.cell? ⟨gb340, 6, none⟩ = some (.int .i64 a0_6) ∧ w'.cell? ⟨gb340, 7, none⟩ = some (.int .i64 a0_7) ∧ w'.cell? ⟨gb340, 8, none⟩ = some (.int .i64 a0_8) ∧ w'.cell? ⟨gb340, 9, none⟩ = some (.slice A0_9 l0_9.length c0_9) ∧ w'.cell? ⟨gb340, 10, none⟩ = some (.slice A0_10 l0_10.length c0_10)) (ds := []) #[false, false, false, false, false, false, false, false, false, false, false] (by kernel_rfl) rfl rfl ⟨(blk_cell BK340.out 0).trans rfl, (blk_cell BK340.out 1).trans rfl, (blk_cell BK340.out 2).trans rfl, (blk_cell BK340.out 3).trans rfl, (blk_cell BK340.out 4).trans rfl, (blk_cell BK340.out 5).trans rfl, (blk_cell BK340.out 6).trans rfl, (blk_cell BK340.out 7).trans rfl, (blk_cell BK340.out 8).trans rfl, (blk_cell BK340.out 9).trans rfl, (blk_cell BK340.out 10).trans rfl⟩ (fun hHeld => ?_); refine with_tabW impl_Complain.tab3 impl_Complain.bits3 (fun HT_ HW_ => ?_)
 generalize wc.drew = w2001 at BK340 BK341 HB HR347 hHeld ⊢
 refine pure_ (i := 2) (N := some 50) (v := ?_) (a' := ?_) #[false, false, true, false, false, false, false, false, false, false, false] rfl rfl (any_of HT_.out (by kernel_rfl)) (fun _ _ _ h => h) (Or.inl ⟨by rfl, ?_⟩) ?_ ?_
 rotate_left
 {
 intro w'
 go_simp
 with_reducible rfl
 }
 rotate_left
 {
 simp only [Act.put, List.setIfInBounds_toArray, List.set_cons_zero, List.set_cons_succ, i64_w, i32_w]
 rfl
 }
 refine pure_ (i := 4) (N := some 52) (v := ?_) (a' := ?_) #[false, false, true, false, true, false, false, false, false, false, false] rfl rfl (any_of HT_.out (by kernel_rfl)) (fun _ _ _ h => h) (Or.inl ⟨by rfl, ?_⟩) ?_ ?_
 rotate_left
 {
 intro w'
 go_simp
 with_reducible rfl
 }
 rotate_left
 {
 simp only [Act.put, List.setIfInBounds_toArray, List.set_cons_zero, List.set_cons_succ, i64_w, i32_w]
 rfl
 }
 refine take_ (i := 0) (N := some 48) (v := ?_) (a' := ?_) #[true, false, true, false, true, false, false, false, false, false, false] rfl rfl (take_ofW HT_.out HW_.out (by kernel_rfl)) (fun _ _ _ h => h) (Or.inl ⟨by rfl, ?_⟩) hHeld ?_ ?_
 rotate_left
 {
 rintro w' ⟨s0, s1, s2, s3, s4, s5, s6, s7, s8, s9, s10⟩
 go_simp
 with_reducible rfl
 }
 rotate_left
 {
 simp only [Act.put, List.setIfInBounds_toArray, List.set_cons_zero, List.set_cons_succ, i64_w, i32_w]
 rfl
 }
 refine take_ (i := 3) (N := some 51) (v := ?_) (a' := ?_) #[true, false, true, true, true, false, false, false, false, false, false] rfl rfl (take_ofW HT_.out HW_.out (by kernel_rfl)) (fun _ _ _ h => h) (Or.inl ⟨by rfl, ?_⟩) hHeld ?_ ?_
 rotate_left
 {
 rintro w' ⟨s0, s1, s2, s3, s4, s5, s6, s7, s8, s9, s10⟩
 go_simp
 with_reducible rfl
 }
 rotate_left
 {
 simp only [Act.put, List.setIfInBounds_toArray, List.set_cons_zero, List.set_cons_succ, i64_w, i32_w]
 rfl
 }
 refine take_ (i := 5) (N := some 53) (v := ?_) (a' := ?_) #[true, false, true, true, true, true, false, false, false, false, false] rfl rfl (take_ofW HT_.out HW_.out (by kernel_rfl)) (fun _ _ _ h => h) (Or.inl ⟨by rfl, ?_⟩) hHeld ?_ ?_
 rotate_left
 {
 rintro w' ⟨s0, s1, s2, s3, s4, s5, s6, s7, s8, s9, s10⟩
 go_simp
 with_reducible rfl
 }
 rotate_left
 {
 simp only [Act.put, List.setIfInBounds_toArray, List.set_cons_zero, List.set_cons_succ, i64_w, i32_w]
 rfl
 }
 refine pure_ (i := 6) (N := some 54) (v := ?_) (a' := ?_) #[true, false, true, true, true, true, true, false, false, false, false] rfl rfl (any_of HT_.out (by kernel_rfl)) (fun _ _ _ h => h) (Or.inl ⟨by rfl, ?_⟩) ?_ ?_
 rotate_left
 {
 intro w'
 go_simp
 with_reducible rfl
 }
 rotate_left
 {
 simp only [Act.put, List.setIfInBounds_toArray, List.set_cons_zero, List.set_cons_succ, i64_w, i32_w]
 rfl
 }
 refine pure_ (i := 7) (N := some 55) (v := ?_) (a' := ?_) #[true, false, true, true, true, true, true, true, false, false, false] rfl rfl (any_of HT_.out (by kernel_rfl)) (fun _ _ _ h => h) (Or.inl ⟨by rfl, ?_⟩) ?_ ?_
 rotate_left
 {
 intro w'
 go_simp
 with_reducible rfl
 }
 rotate_left
 {
 simp only [Act.put, List.setIfInBounds_toArray, List.set_cons_zero, List.set_cons_succ, i64_w, i32_w]
 rfl
 }
 refine pure_ (i := 8) (N := some 56) (v := ?_) (a' := ?_) #[true, false, true, true, true, true, true, true, true, false, false] rfl rfl (any_of HT_.out (by kernel_rfl)) (fun _ _ _ h => h) (Or.inl ⟨by rfl, ?_⟩) ?_ ?_
 rotate_left
 {
 intro w'
 go_simp
 with_reducible rfl
 }
 rotate_left
 {
 simp only [Act.put, List.setIfInBounds_toArray, List.set_cons_zero, List.set_cons_succ, i64_w, i32_w]
 rfl
 }
 refine one_ (i := 1) (N := some 49) #[true, true, true, true, true, true, true, true, true, false, false] rfl rfl (one_of HT_.out (by kernel_rfl)) (by decide) (fun K hK => ?_)
 refine goes_ Try.func117 (by kernel_rfl) rfl #[.agg #[.int .i64 a0_0, .int .i64 a0_1, .bool a0_2, .bool a0_3, .int .i64 a0_4, .int .i64 a0_5, .int .i64 a0_6, .int .i64 a0_7, .int .i64 a0_8, .slice A0_9 l0_9.length c0_9, .slice A0_10 l0_10.length c0_10]] (by rfl) rfl rfl wT ?_
 with_reducible refine (impl_headIP.calls kj5 a0_0 a0_1 a0_2 a0_3 a0_4 a0_5 a0_6 a0_7 a0_8 _ _ l0_9 _ _ l0_10 t344 _ ?side1 ?side2 ?side3 ?side4 A1016.out).mono ?_
 (case side1 => exact Kd.C_below HR0_9.out wB)
 (case side2 => exact HC0_9.out)
 (case side3 => exact Kd.C_below HR0_10.out wB)
 (case side4 => exact HC0_10.out)
 rintro e w2003 ⟨v345, rfl, ho0, hb⟩
 refine ⟨_, rfl, ?_⟩
 have n0_ := Aside0.mk (Kd.R_lower ho0 (below_size wB))
 have n1_ := Aside0.mk (blk_below (Bh BK340) hb)
 have n2_ := Aside0.mk (blk_below (Bh BK341) hb)
 have n3_ := Aside0.mk (below_step wB hb)
 clear BK340
 clear BK341
 clear HB
 have HO346 := n0_
 have BK340 := n1_
 have BK341 := n2_
 have HB := n3_
 clear n0_ n1_ n2_ n3_
 (try clear hb)
 (try clear hb2)
 (try clear hk)
 (try clear hi)
 (try clear ho0)
 refine hK.out _ _ ⟨(blk_cell BK340.out 0).trans rfl, (blk_cell BK340.out 1).trans rfl, (blk_cell BK340.out 2).trans rfl, (blk_cell BK340.out 3).trans rfl, (blk_cell BK340.out 4).trans rfl, (blk_cell BK340.out 5).trans rfl, (blk_cell BK340.out 6).trans rfl, (blk_cell BK340.out 7).trans rfl, (blk_cell BK340.out 8).trans rfl, (blk_cell BK340.out 9).trans rfl, (blk_cell BK340.out 10).trans rfl⟩ (fun hHeld => ?_)
 clear hK K
 refine norm_ (a' := ?_) ?_ ?_
 rotate_left
 {
 show Act.put _ (some 49) _ = _
 simp only [Act.put, List.setIfInBounds_toArray, List.set_cons_zero, List.set_cons_succ, i64_w, i32_w]
 rfl
 }
 refine one_ (i := 9) (N := some 57) #[true, true, true, true, true, true, true, true, true, true, false] rfl rfl (one_of HT_.out (by kernel_rfl)) (by decide) (fun K hK => ?_)
 refine Kd.R_append_rows_step (Kd.int .u8) (w0 := w) w.heap.size (by rfl) (.tmp 49) (.tmp 56) 22 5 (.int .u8 0) 1 rfl Try.underlying22 info5 rfl (by decide) (by omega) v345 t344 (l0_10.take ((ji1017) : Int).toNat) _ _ _ (fun _ => True) (fun _ => False) rfl rfl ?aO ?aR (fun _ _ h => h) (fun _ h => h.elim) ?aF ?aB ?aS ?aL ?_
 (case aR => first | (refine Eq.subst (motive := fun n_ => Kd.C _ _ _ n_ _) (show (l0_10.take ((ji1017) : Int).toNat).length = (ji1017).toNat from (by rw [List.length_take]; have h_ : ((ji1017) : Int) ≤ (l0_10.length : Int) := of_decide_eq_true (by first | (with_reducible assumption) | assumption); omega)) ?_; exact Kd.C_below HR347.out wB) | (rw [← show (l0_10.take ((ji1017) : Int).toNat).length = (ji1017).toNat from (by rw [List.length_take]; have h_ : ((ji1017) : Int) ≤ (l0_10.length : Int) := of_decide_eq_true (by first | (with_reducible assumption) | assumption); omega)]; exact Kd.C_below HR347.out wB) | (exact Kd.C_below HR347.out wB))
 (case aB => exact wB)
 (case aF => exact (fun _ _ => trivial))
 (case aO => exact (Rh HO346))
 (case aS => exact (below_size wB))
 (case aL => have := LMc1020.out; have hlx_ := (show (l0_10.take ((ji1017) : Int).toNat).length = (ji1017).toNat from (by rw [List.length_take]; have h_ : ((ji1017) : Int) ≤ (l0_10.length : Int) := of_decide_eq_true (by first | (with_reducible assumption) | assumption); omega)); omega)
 intro v349 w2004 ho hb hg hat
 rw [← Ny348.out] at ho
 have n0_ := Aside0.mk (blk_grown (Bh BK340) hg (Kd.R_ne HO346.out BK340.out (by decide)))
 have n1_ := Aside0.mk (blk_grown (Bh BK341) hg (Kd.R_ne HO346.out BK341.out (by decide)))
 have n2_ := Aside0.mk (hb)
 have n3_ := Aside0.mk (ho)
 clear BK340
 clear BK341
 clear HB
 clear HO346
 have BK340 := n0_
 have BK341 := n1_
 have HB := n2_
 have HO350 := n3_
 clear n0_ n1_ n2_ n3_
 clear ho hb hg hat
 refine hK.out _ _ ⟨(blk_cell BK340.out 0).trans rfl, (blk_cell BK340.out 1).trans rfl, (blk_cell BK340.out 2).trans rfl, (blk_cell BK340.out 3).trans rfl, (blk_cell BK340.out 4).trans rfl, (blk_cell BK340.out 5).trans rfl, (blk_cell BK340.out 6).trans rfl, (blk_cell BK340.out 7).trans rfl, (blk_cell BK340.out 8).trans rfl, (blk_cell BK340.out 9).trans rfl, (blk_cell BK340.out 10).trans rfl⟩ (fun hHeld => ?_)
 clear hK K
 refine norm_ (a' := ?_) ?_ ?_
 rotate_left
 {
 show Act.put _ (some 57) _ = _
 simp only [Act.put, List.setIfInBounds_toArray, List.set_cons_zero, List.set_cons_succ, i64_w, i32_w]
 rfl
 }
 refine pure_ (i := 10) (N := some 12) (v := ?_) (a' := ?_) #[true, true, true, true, true, true, true, true, true, true, true] rfl rfl (any_of HT_.out (by kernel_rfl)) (fun _ _ _ h => h) (Or.inl ⟨by rfl, ?_⟩) ?_ ?_
 rotate_left
 {
 intro w'
 go_simp
 with_reducible rfl
 }
 rotate_left
 {
 simp only [Act.put, List.setIfInBounds_toArray, List.set_cons_zero, List.set_cons_succ, i64_w, i32_w]
 rfl
 }
 refine done_ (done_of HT_.out (by kernel_rfl)) ?_
 obtain ⟨Ao2005, co2005, eo2005⟩ := Kd.R_slice HO350.out
 subst eo2005
 try go_wp2_with (first | ((with_reducible refine gate_callee (f := 118) rfl ?_); refine goesL_ (some 64) rfl rfl Try.func118 (by kernel_rfl) rfl #[.agg #[.int .i64 a2, .int .i64 a3, .int .i64 a4, .slice Ao2005 y348.length co2005]] rfl wT ?_; (with_reducible refine (impl_EncodeIcmp.calls kj5 a2 a3 a4 _ _ y348 t351 t354 _ ?side1 ?side2 A1021.out).mono ?_); (case side1 => exact Ch HO350); (case side2 => exact (Kd.R_reads' HO350.out).2.1); rintro e w2006 ⟨v352, rfl, ho0, hb⟩; refine ⟨_, rfl, ?_⟩; have n0_ := Aside0.mk (Kd.R_elder' (Rh HO350) (Kd.R_base ho0) hb); have n1_ := Aside0.mk (Kd.R_lower (Kd.R_new' ho0 (Kd.R_lt (Rh HO350))) (below_size wB)); have n2_ := Aside0.mk (blk_below (Bh BK340) hb); have n3_ := Aside0.mk (blk_below (Bh BK341) hb); have n4_ := Aside0.mk (below_step wB hb); clear HO350; clear BK340; clear BK341; clear HB; have HO350 := n0_; have HO353 := n1_; have BK340 := n2_; have BK341 := n3_; have HB := n4_; clear n0_ n1_ n2_ n3_ n4_; (try clear hb); (try clear hb2); (try clear hk); (try clear hi); (try clear ho0); have hnb2007 := NB340_341.out; have hnc2007 := NB341_340.out; obtain ⟨⟨hcz2008_0, hcz2008_1, hcz2008_2, hcz2008_3, hcz2008_4, hcz2008_5, hcz2008_6, hcz2008_7, hcz2008_8, hcz2008_9, hcz2008_10⟩, hfz2008_0, hfz2008_1, hfz2008_2, hfz2008_3, hfz2008_4, hfz2008_5, hfz2008_6, hfz2008_7, hfz2008_8, hfz2008_9, hfz2008_10⟩ := cells11 BK340.out; obtain ⟨Ao2009, co2009, eo2009⟩ := Kd.R_slice HO353.out; subst eo2009; obtain ⟨⟨hcz2010_0, hcz2010_1, hcz2010_2, hcz2010_3, hcz2010_4, hcz2010_5, hcz2010_6, hcz2010_7, hcz2010_8, hcz2010_9, hcz2010_10⟩, hfz2010_0, hfz2010_1, hfz2010_2, hfz2010_3, hfz2010_4, hfz2010_5, hfz2010_6, hfz2010_7, hfz2010_8, hfz2010_9, hfz2010_10⟩ := cells11 BK341.out) | ((with_reducible refine gate_store (t := 51) (p := 10) rfl ?_); (try (rw [drewN_self w2006]; generalize hq_ : World.drewN w2006 _ = w2006; have n0_ := Aside0.mk (Kd.R_at hq_ HO350.out); have n1_ := Aside0.mk (Kd.R_at hq_ HO353.out); have n2_ := Aside0.mk (blk_at hq_ BK340.out); have n3_ := Aside0.mk (blk_at hq_ BK341.out); have n4_ := Aside0.mk (below_at hq_ HB.out); clear hq_ HO350 HO353 BK340 BK341 HB; have HO350 := n0_; have HO353 := n1_; have BK340 := n2_; have BK341 := n3_; have HB := n4_; clear n0_ n1_ n2_ n3_ n4_; (try (obtain ⟨⟨hcyBK340_0, hcyBK340_1, hcyBK340_2, hcyBK340_3, hcyBK340_4, hcyBK340_5, hcyBK340_6, hcyBK340_7, hcyBK340_8, hcyBK340_9, hcyBK340_10⟩, hfyBK340_0, hfyBK340_1, hfyBK340_2, hfyBK340_3, hfyBK340_4, hfyBK340_5, hfyBK340_6, hfyBK340_7, hfyBK340_8, hfyBK340_9, hfyBK340_10⟩ := cells11 BK340.out)); (try (obtain ⟨⟨hcyBK341_0, hcyBK341_1, hcyBK341_2, hcyBK341_3, hcyBK341_4, hcyBK341_5, hcyBK341_6, hcyBK341_7, hcyBK341_8, hcyBK341_9, hcyBK341_10⟩, hfyBK341_0, hfyBK341_1, hfyBK341_2, hfyBK341_3, hfyBK341_4, hfyBK341_5, hfyBK341_6, hfyBK341_7, hfyBK341_8, hfyBK341_9, hfyBK341_10⟩ := cells11 BK341.out)))); refine store_event (t := 51) (p := 10) (v := ?_) (w1 := (((((((((((w2006.setCell ⟨gb341, 0, none⟩ (.int .i64 0)).setCell ⟨gb341, 1, none⟩ (.int .i64 0)).setCell ⟨gb341, 2, none⟩ (.bool false)).setCell ⟨gb341, 3, none⟩ (.bool false)).setCell ⟨gb341, 4, none⟩ (.int .i64 0)).setCell ⟨gb341, 5, none⟩ (.int .i64 64)).setCell ⟨gb341, 6, none⟩ (.int .i64 1)).setCell ⟨gb341, 7, none⟩ (.int .i64 a1)).setCell ⟨gb341, 8, none⟩ (.int .i64 a0_7)).setCell ⟨gb341, 9, none⟩ (.slice none 0 0)).setCell ⟨gb341, 10, none⟩ (.slice Ao2009 t351.length co2009))) ?hg ?ho ?hn ?hr ?_; (case ho => rfl); (case hg => rfl); (case hn => rfl); (case hr => first | (go_simp; done) | (go_simp; rfl)); intro w2011 hw; have n0_ : Aside0 (Kd.R (Kd.int .u8) 5 w2011 w.heap.size (fun k_ => some k_ ≠ (.slice Ao2009 t351.length co2009 : Value).ownBlock) (.slice Ao2005 y348.length co2005) y348) := ⟨(by rw [hw]; exact (by (with_reducible repeat (first | apply Kd.R_alloc | apply Kd.R_drewN | apply Kd.R_drew)); exact Kd.R_mono (Kd.R_far (p := ⟨gb341, 10, none⟩) (Kd.R_far (p := ⟨gb341, 9, none⟩) (Kd.R_far (p := ⟨gb341, 8, none⟩) (Kd.R_far (p := ⟨gb341, 7, none⟩) (Kd.R_far (p := ⟨gb341, 6, none⟩) (Kd.R_far (p := ⟨gb341, 5, none⟩) (Kd.R_far (p := ⟨gb341, 4, none⟩) (Kd.R_far (p := ⟨gb341, 3, none⟩) (Kd.R_far (p := ⟨gb341, 2, none⟩) (Kd.R_far (p := ⟨gb341, 1, none⟩) (Kd.R_far (p := ⟨gb341, 0, none⟩) (Kd.R_types HO350.out BK341.out (by decide)) (fun _ hk => hk.2) (.int .i64 0)) (fun _ hk => hk.2) (.int .i64 0)) (fun _ hk => hk.2) (.bool false)) (fun _ hk => hk.2) (.bool false)) (fun _ hk => hk.2) (.int .i64 0)) (fun _ hk => hk.2) (.int .i64 64)) (fun _ hk => hk.2) (.int .i64 1)) (fun _ hk => hk.2) (.int .i64 a1)) (fun _ hk => hk.2) (.int .i64 a0_7)) (fun _ hk => hk.2) (.slice none 0 0)) (fun _ hk => hk.2) (.slice Ao2009 t351.length co2009)) (fun _ hk => hk.1.2)))⟩; have n1_ : Aside0 (Kd.R (Kd.int .u8) 5 w2011 w.heap.size (fun k_ => some k_ ≠ (.slice Ao2005 y348.length co2005 : Value).ownBlock) (.slice Ao2009 t351.length co2009) t351) := ⟨(by rw [hw]; exact (by (with_reducible repeat (first | apply Kd.R_alloc | apply Kd.R_drewN | apply Kd.R_drew)); exact Kd.R_mono (Kd.R_far (p := ⟨gb341, 10, none⟩) (Kd.R_far (p := ⟨gb341, 9, none⟩) (Kd.R_far (p := ⟨gb341, 8, none⟩) (Kd.R_far (p := ⟨gb341, 7, none⟩) (Kd.R_far (p := ⟨gb341, 6, none⟩) (Kd.R_far (p := ⟨gb341, 5, none⟩) (Kd.R_far (p := ⟨gb341, 4, none⟩) (Kd.R_far (p := ⟨gb341, 3, none⟩) (Kd.R_far (p := ⟨gb341, 2, none⟩) (Kd.R_far (p := ⟨gb341, 1, none⟩) (Kd.R_far (p := ⟨gb341, 0, none⟩) (Kd.R_types HO353.out BK341.out (by decide)) (fun _ hk => hk.2) (.int .i64 0)) (fun _ hk => hk.2) (.int .i64 0)) (fun _ hk => hk.2) (.bool false)) (fun _ hk => hk.2) (.bool false)) (fun _ hk => hk.2) (.int .i64 0)) (fun _ hk => hk.2) (.int .i64 64)) (fun _ hk => hk.2) (.int .i64 1)) (fun _ hk => hk.2) (.int .i64 a1)) (fun _ hk => hk.2) (.int .i64 a0_7)) (fun _ hk => hk.2) (.slice none 0 0)) (fun _ hk => hk.2) (.slice Ao2009 t351.length co2009)) (fun _ hk => hk.1.2)))⟩; have n2_ : Aside0 (w2011.heap[gb340]? = some (.cells #[.int .i64 a0_0, .int .i64 a0_1, .bool a0_2, .bool a0_3, .int .i64 a0_4, .int .i64 a0_5, .int .i64 a0_6, .int .i64 a0_7, .int .i64 a0_8, .slice A0_9 l0_9.length c0_9, .slice A0_10 l0_10.length c0_10] 51 (0, 0))) := ⟨(by rw [hw]; exact (by (with_reducible repeat (first | refine blk_drewN ?_ _ | refine blk_drew ?_ | refine blk_alloc ?_ _)); refine blk_far ?_ NB340_341.out _; (with_reducible repeat (first | refine blk_drewN ?_ _ | refine blk_drew ?_ | refine blk_alloc ?_ _)); refine blk_far ?_ NB340_341.out _; (with_reducible repeat (first | refine blk_drewN ?_ _ | refine blk_drew ?_ | refine blk_alloc ?_ _)); refine blk_far ?_ NB340_341.out _; (with_reducible repeat (first | refine blk_drewN ?_ _ | refine blk_drew ?_ | refine blk_alloc ?_ _)); refine blk_far ?_ NB340_341.out _; (with_reducible repeat (first | refine blk_drewN ?_ _ | refine blk_drew ?_ | refine blk_alloc ?_ _)); refine blk_far ?_ NB340_341.out _; (with_reducible repeat (first | refine blk_drewN ?_ _ | refine blk_drew ?_ | refine blk_alloc ?_ _)); refine blk_far ?_ NB340_341.out _; (with_reducible repeat (first | refine blk_drewN ?_ _ | refine blk_drew ?_ | refine blk_alloc ?_ _)); refine blk_far ?_ NB340_341.out _; (with_reducible repeat (first | refine blk_drewN ?_ _ | refine blk_drew ?_ | refine blk_alloc ?_ _)); refine blk_far ?_ NB340_341.out _; (with_reducible repeat (first | refine blk_drewN ?_ _ | refine blk_drew ?_ | refine blk_alloc ?_ _)); refine blk_far ?_ NB340_341.out _; (with_reducible repeat (first | refine blk_drewN ?_ _ | refine blk_drew ?_ | refine blk_alloc ?_ _)); refine blk_far ?_ NB340_341.out _; (with_reducible repeat (first | refine blk_drewN ?_ _ | refine blk_drew ?_ | refine blk_alloc ?_ _)); refine blk_far ?_ NB340_341.out _; (with_reducible repeat (first | refine blk_drewN ?_ _ | refine blk_drew ?_ | refine blk_alloc ?_ _)); exact BK340.out))⟩; have n3_ : Aside0 (w2011.heap[gb341]? = some (.cells #[.int .i64 0, .int .i64 0, .bool false, .bool false, .int .i64 0, .int .i64 64, .int .i64 1, .int .i64 a1, .int .i64 a0_7, .slice none 0 0, .slice Ao2009 t351.length co2009] 51 (0, 0))) := ⟨(by rw [hw]; exact (by (with_reducible repeat (first | refine blk_drewN ?_ _ | refine blk_drew ?_ | refine blk_alloc ?_ _)); refine blk_put (cs := #[.int .i64 0, .int .i64 0, .bool false, .bool false, .int .i64 0, .int .i64 64, .int .i64 1, .int .i64 a1, .int .i64 a0_7, .slice none 0 0, .slice none 0 0]) ?_ 10 _ rfl; (with_reducible repeat (first | refine blk_drewN ?_ _ | refine blk_drew ?_ | refine blk_alloc ?_ _)); refine blk_put (cs := #[.int .i64 0, .int .i64 0, .bool false, .bool false, .int .i64 0, .int .i64 64, .int .i64 1, .int .i64 a1, .int .i64 a0_7, .slice none 0 0, .slice none 0 0]) ?_ 9 _ rfl; (with_reducible repeat (first | refine blk_drewN ?_ _ | refine blk_drew ?_ | refine blk_alloc ?_ _)); refine blk_put (cs := #[.int .i64 0, .int .i64 0, .bool false, .bool false, .int .i64 0, .int .i64 64, .int .i64 1, .int .i64 a1, .int .i64 0, .slice none 0 0, .slice none 0 0]) ?_ 8 _ rfl; (with_reducible repeat (first | refine blk_drewN ?_ _ | refine blk_drew ?_ | refine blk_alloc ?_ _)); refine blk_put (cs := #[.int .i64 0, .int .i64 0, .bool false, .bool false, .int .i64 0, .int .i64 64, .int .i64 1, .int .i64 0, .int .i64 0, .slice none 0 0, .slice none 0 0]) ?_ 7 _ rfl; (with_reducible repeat (first | refine blk_drewN ?_ _ | refine blk_drew ?_ | refine blk_alloc ?_ _)); refine blk_put (cs := #[.int .i64 0, .int .i64 0, .bool false, .bool false, .int .i64 0, .int .i64 64, .int .i64 0, .int .i64 0, .int .i64 0, .slice none 0 0, .slice none 0 0]) ?_ 6 _ rfl; (with_reducible repeat (first | refine blk_drewN ?_ _ | refine blk_drew ?_ | refine blk_alloc ?_ _)); refine blk_put (cs := #[.int .i64 0, .int .i64 0, .bool false, .bool false, .int .i64 0, .int .i64 0, .int .i64 0, .int .i64 0, .int .i64 0, .slice none 0 0, .slice none 0 0]) ?_ 5 _ rfl; (with_reducible repeat (first | refine blk_drewN ?_ _ | refine blk_drew ?_ | refine blk_alloc ?_ _)); refine blk_put (cs := #[.int .i64 0, .int .i64 0, .bool false, .bool false, .int .i64 0, .int .i64 0, .int .i64 0, .int .i64 0, .int .i64 0, .slice none 0 0, .slice none 0 0]) ?_ 4 _ rfl; (with_reducible repeat (first | refine blk_drewN ?_ _ | refine blk_drew ?_ | refine blk_alloc ?_ _)); refine blk_put (cs := #[.int .i64 0, .int .i64 0, .bool false, .bool false, .int .i64 0, .int .i64 0, .int .i64 0, .int .i64 0, .int .i64 0, .slice none 0 0, .slice none 0 0]) ?_ 3 _ rfl; (with_reducible repeat (first | refine blk_drewN ?_ _ | refine blk_drew ?_ | refine blk_alloc ?_ _)); refine blk_put (cs := #[.int .i64 0, .int .i64 0, .bool false, .bool false, .int .i64 0, .int .i64 0, .int .i64 0, .int .i64 0, .int .i64 0, .slice none 0 0, .slice none 0 0]) ?_ 2 _ rfl; (with_reducible repeat (first | refine blk_drewN ?_ _ | refine blk_drew ?_ | refine blk_alloc ?_ _)); refine blk_put (cs := #[.int .i64 0, .int .i64 0, .bool false, .bool false, .int .i64 0, .int .i64 0, .int .i64 0, .int .i64 0, .int .i64 0, .slice none 0 0, .slice none 0 0]) ?_ 1 _ rfl; (with_reducible repeat (first | refine blk_drewN ?_ _ | refine blk_drew ?_ | refine blk_alloc ?_ _)); refine blk_put (cs := #[.int .i64 0, .int .i64 0, .bool false, .bool false, .int .i64 0, .int .i64 0, .int .i64 0, .int .i64 0, .int .i64 0, .slice none 0 0, .slice none 0 0]) ?_ 0 _ rfl; (with_reducible repeat (first | refine blk_drewN ?_ _ | refine blk_drew ?_ | refine blk_alloc ?_ _)); exact BK341.out))⟩; have n4_ : Aside0 (Below w.heap.size w w2011) := ⟨(by rw [hw]; exact wB)⟩; clear hw; clear HO350; clear HO353; clear BK340; clear BK341; clear HB; have HO350 := n0_; have HO353 := n1_; have BK340 := n2_; have BK341 := n3_; have HB := n4_; clear n0_ n1_ n2_ n3_ n4_))
 refine bodyPost_ret (results_ct rfl _ _ gb341 51 #[.int .i64 0, .int .i64 0, .bool false, .bool false, .int .i64 0, .int .i64 64, .int .i64 1, .int .i64 a1, .int .i64 a0_7, .slice none 0 0, .slice Ao2009 t351.length co2009] (0, 0) _ rfl (Bh BK341) Try.underlying51 rfl (by kernel_rfl)) rfl ?_
 exact ⟨_, _, by first | rfl | (simp [errW_none, errW_some] <;> rfl) | (simp only [← hji1017]; first | rfl | (simp [errW_none, errW_some] <;> rfl)) | (simp [*, errW_none, errW_some] <;> rfl), by first | exact Kd.R_nil _ _ _ _ _ | exact Kd.N_nil _ _ _ _ _ | exact Kd.V_nil _ _ _ _ _ | exact Kd.Q_nil _ _ _ _ _ | exact Kd.S_nil _ _ _ _ _, Kd.R_mono (Rh HO353) (fun _ hk => (by simp [Value.ownBlock])), wB⟩
 }
 {
 rw [if_neg c1020] at H
 exact absurd H (by simp)
 }
 }
 {
 rw [if_neg c1019] at H
 exact absurd H (by simp)
 }
 }
 {
 rw [if_neg c1018] at H
 exact absurd H (by simp)
 }
 }
 }
 )

end Go.Proofs.Ytkfbcmbemihbnaa.PFnExactComplain
