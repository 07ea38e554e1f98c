-- Written for this claim by a program of this session (wip/mkprint.py: the print, turned at a few places). Not trusted: Lean checks it.
import Derived.Test.YtkfbcmbemihbnaaPFnExactDecodeIPx0
import Derived.Test.YtkfbcmbemihbnaaPFnExactDecodeIPx1
import Derived.Test.YtkfbcmbemihbnaaPFnExactDecodeIPx2
namespace Go.Proofs.Ytkfbcmbemihbnaa.PFnExactDecodeIP
open Go.RowKit Go.Proofs.YtkfbcmbemihbnaaW.PrintWords Go.Proofs.YtkfbcmbemihbnaaW.PrintLast Go.Proofs.YtkfbcmbemihbnaaW.PrintMore
attribute [local go_sem] max2_int min2_int max_two min_two max_three min_three max_four min_four   -- for this text's walks alone
set_option linter.unusedVariables false
set_option linter.unusedSimpArgs false

/-! ### spec_DecodeIP: function 30 -/
def spec_DecodeIP.j0 : Nat → List Int → Int → Int → Bool → Option (Int × Int × Bool × Bool × Int × Int × Int × Int × Int × List Int × List Int × Int)
  | 0, _, _, _, _ => none
  | k + 1, x0, x4, x6, x29 => if x29 = true then (some (0, 0, false, false, 0, 0, 0, 0, 0, ([] : List Int), ([] : List Int), 5)) else (if 6 ≤ 8 then (if 8 ≤ (x0.length : Int) then ((spec_l03Num.f k ((x0.take 8).drop 6)).bind fun t129 => (if 1 < (x0.length : Int) then (if 4 ≤ 6 then (if 6 ≤ (x0.length : Int) then ((spec_l03Num.f k ((x0.take 6).drop 4)).bind fun t132 => (if 8 < (x0.length : Int) then (if 9 < (x0.length : Int) then (if 12 ≤ 16 then (if 16 ≤ (x0.length : Int) then ((spec_l03Num.f k ((x0.take 16).drop 12)).bind fun t136 => (if 16 ≤ 20 then (if 20 ≤ (x0.length : Int) then ((spec_l03Num.f k ((x0.take 20).drop 16)).bind fun t138 => (if 20 ≤ x4 then (if x4 ≤ (x0.length : Int) then ((spec_l01Copy.f k ((x0.take (x4 : Int).toNat).drop 20)).bind fun t140 => (if 0 ≤ x4 then (if x4 ≤ x6 then (if x6 ≤ (x0.length : Int) then ((spec_l01Copy.f k ((x0.take (x6 : Int).toNat).drop (x4 : Int).toNat)).bind fun t144 => (if (Go.bits .and .i64 t129 32768) = 0 then (if (wrap64 ((wrap64 ((Int.tmod t129 8192) * 8)) + (t144.length : Int))) > 65535 then (some (0, 0, false, false, 0, 0, 0, 0, 0, ([] : List Int), ([] : List Int), 1)) else (some (wrap64 (rd x0 1), t132, ((Go.bits .and .i64 t129 16384) != 0), ((Go.bits .and .i64 t129 8192) != 0), wrap64 ((Int.tmod t129 8192) * 8), wrap64 (rd x0 8), wrap64 (rd x0 9), t136, t138, t140, t144, 0))) else (some (0, 0, false, false, 0, 0, 0, 0, 0, ([] : List Int), ([] : List Int), 1)))) else (none)) else (none)) else (none))) else (none)) else (none))) else (none)) else (none))) else (none)) else (none)) else (none)) else (none))) else (none)) else (none)) else (none))) else (none)) else (none))
def spec_DecodeIP.f (k : Nat) (l0 : List Int) : Option (Int × Int × Bool × Bool × Int × Int × Int × Int × Int × List Int × List Int × Int) := (spec_l05ReadHead.f k l0).bind fun bt124 => (if bt124.2 = 0 then (if 2 ≤ 4 then (if 4 ≤ (l0.length : Int) then ((spec_l03Num.f k ((l0.take 4).drop 2)).bind fun t127 => (if t127 < bt124.1 then (spec_DecodeIP.j0 k l0 bt124.1 t127 true) else (spec_DecodeIP.j0 k l0 bt124.1 t127 (decide (t127 > (l0.length : Int)))))) else (none)) else (none)) else (some (0, 0, false, false, 0, 0, 0, 0, 0, ([] : List Int), ([] : List Int), bt124.2)))
theorem spec_DecodeIP.mono_l : ∀ k, (∀ y0 y1 y2 y3, LeO (spec_DecodeIP.j0 k y0 y1 y2 y3) (spec_DecodeIP.j0 (k + 1) y0 y1 y2 y3))
  | 0 => fun _ _ _ _ r h => by simp [spec_DecodeIP.j0] at h
  | k + 1 => by
    have ih0 := spec_DecodeIP.mono_l k
    · intro y0 y1 y2 y3
      unfold spec_DecodeIP.j0
      repeat' first
      | (with_reducible exact ih0 _ _ _ _)
      | (with_reducible exact spec_l01Copy.mono _ _)
      | (with_reducible exact spec_l03Num.mono _ _)
      | (with_reducible exact spec_l05ReadHead.mono _ _)
      | (with_reducible exact LeO.refl _)
      | (with_reducible exact LeO.none _)
      | (with_reducible refine LeO.ite ?_ ?_)
      | (with_reducible refine LeO.bind ?_ (fun _ => ?_))
      | exact ih0 _ _ _ _
      | exact spec_l01Copy.mono _ _
      | exact spec_l03Num.mono _ _
      | exact spec_l05ReadHead.mono _ _
      | exact LeO.none _
      | refine LeO.ite ?_ ?_
      | refine LeO.bind ?_ (fun _ => ?_)
theorem spec_DecodeIP.mono : ∀ a0 k, LeO (spec_DecodeIP.f k a0) (spec_DecodeIP.f (k + 1) a0) := by
 intro a0 k
 have ih0 := spec_DecodeIP.mono_l k
 unfold spec_DecodeIP.f
 repeat' first
     | (with_reducible exact ih0 _ _ _ _)
     | (with_reducible exact spec_l01Copy.mono _ _)
     | (with_reducible exact spec_l03Num.mono _ _)
     | (with_reducible exact spec_l05ReadHead.mono _ _)
     | (with_reducible exact LeO.refl _)
     | (with_reducible exact LeO.none _)
     | (with_reducible refine LeO.ite ?_ ?_)
     | (with_reducible refine LeO.bind ?_ (fun _ => ?_))
     | exact ih0 _ _ _ _
     | exact spec_l01Copy.mono _ _
     | exact spec_l03Num.mono _ _
     | exact spec_l05ReadHead.mono _ _
     | exact LeO.none _
     | refine LeO.ite ?_ ?_
     | refine LeO.bind ?_ (fun _ => ?_)
def spec_DecodeIP.T8 : Bool × List (List Nat × List Nat) := (true, [([], []), ([0], [0]), ([1], [1]), ([2], [2]), ([], []), ([4], [4]), ([5], [5]), ([], []), ([7], [7]), ([8], [8]), ([], []), ([10], [10]), ([11], [11]), ([], []), ([13], [13]), ([14], [14]), ([], []), ([16], [16]), ([17], [17]), ([18], [18]), ([], []), ([20], [20]), ([21], [21]), ([22], [22]), ([], []), ([24], [24]), ([25, 6], [25]), ([], []), ([27], [27]), ([28, 26], [28]), ([], []), ([], []), ([30, 31], [30, 31]), ([32, 29], [32]), ([], []), ([], []), ([], []), ([34, 35, 36], [34, 35, 36]), ([37, 33], [37]), ([3, 6, 9, 12, 15, 19, 23, 26, 29, 33, 38], [3, 6, 9, 12, 15, 19, 23, 26, 29, 33, 38]), ([], []), ([40, 39, 38, 0, 1, 2, 3, 4, 5, 6, 7, 8, 9, 10, 11, 12, 13, 14, 15, 16, 17, 18, 19, 20, 21, 22, 23, 24, 25, 26, 27, 28, 29, 30, 31, 32, 33, 34, 35, 36, 37, 38, 39, 40], [39, 40])])
def spec_DecodeIP.B8 : List Nat := [0, 1, 3, 7, 0, 16, 48, 0, 128, 384, 0, 1024, 3072, 0, 8192, 24576, 0, 65536, 196608, 458752, 0, 1048576, 3145728, 7340032, 0, 16777216, 50331760, 0, 134217728, 520093808, 0, 0, 3221225472, 8573157488, 0, 0, 0, 120259084288, 274861129840, 549755813887, 0, 2199023255551]
theorem spec_DecodeIP.tab8 : rtab .any (opsOf Try.f30 8) = spec_DecodeIP.T8 := by kernel_rfl
theorem spec_DecodeIP.bits8 : waitsOk spec_DecodeIP.T8.2 spec_DecodeIP.B8 = true := by kernel_rfl
set_option maxHeartbeats 60000000 in
set_option maxRecDepth 100000 in
theorem spec_DecodeIP.calls (k : Nat) (A0 : Option Addr) (c0 : Nat) (l0 : List Int) (r1 : Int) (r2 : Int) (r3 : Bool) (r4 : Bool) (r5 : Int) (r6 : Int) (r7 : Int) (r8 : Int) (r9 : Int) (r10 : List Int) (r11 : List Int) (r12 : Int) (w : World) (hr0 : Kd.C (Kd.int .u8) w A0 l0.length l0) (hc0 : l0.length ≤ c0) (h : spec_DecodeIP.f k l0 = some (r1, r2, r3, r4, r5, r6, r7, r8, r9, r10, r11, r12)) :
 Calls Try.prog 30 #[.slice A0 l0.length c0] w fun e w' => ∃ v9_ v10_ : Value, e = .returned (.tuple #[.agg #[.int .i64 r1, .int .i64 r2, .bool r3, .bool r4, .int .i64 r5, .int .i64 r6, .int .i64 r7, .int .i64 r8, .int .i64 r9, v9_, v10_], .int .i64 r12]) ∧ Kd.R (Kd.int .u8) 5 w' w.heap.size (fun k_ => some k_ ≠ (v10_ : Value).ownBlock) v9_ r10 ∧ Kd.R (Kd.int .u8) 5 w' w.heap.size (fun k_ => some k_ ≠ (v9_ : Value).ownBlock) v10_ r11 ∧ Below w.heap.size w w' := by
 have hu51 := Try.underlying51
 have HR0 := Aside0.mk hr0
 have HC0 := Aside0.mk hc0
 clear hr0 hc0
 have HB := Aside0.mk (Below.refl w.heap.size w)
 have H : ((spec_l05ReadHead.f k l0).bind fun bt124 => (if bt124.2 = 0 then (if 2 ≤ 4 then (if 4 ≤ (l0.length : Int) then ((spec_l03Num.f k ((l0.take 4).drop 2)).bind fun t127 => (if t127 < bt124.1 then (spec_DecodeIP.j0 k l0 bt124.1 t127 true) else (spec_DecodeIP.j0 k l0 bt124.1 t127 (decide (t127 > (l0.length : Int)))))) else (none)) else (none)) else (some (0, 0, false, false, 0, 0, 0, 0, 0, ([] : List Int), ([] : List Int), bt124.2)))) = some (r1, r2, r3, r4, r5, r6, r7, r8, r9, r10, r11, r12) := h
 clear h
 replace H := Option.bind_eq_some_iff.mp H
 obtain ⟨⟨t124, t125⟩, A20, H⟩ := H
 replace H : (if t125 = 0 then (if 2 ≤ 4 then (if 4 ≤ (l0.length : Int) then ((spec_l03Num.f k ((l0.take 4).drop 2)).bind fun t127 => (if t127 < t124 then (spec_DecodeIP.j0 k l0 t124 t127 true) else (spec_DecodeIP.j0 k l0 t124 t127 (decide (t127 > (l0.length : Int)))))) else (none)) else (none)) else (some (0, 0, false, false, 0, 0, 0, 0, 0, ([] : List Int), ([] : List Int), t125))) = some (r1, r2, r3, r4, r5, r6, r7, r8, r9, r10, r11, r12) := H
 have A2 := Aside0.mk A20
 clear A20
 by_cases c3 : t125 = 0
 {
 rw [if_pos c3] at H
 have c3b0 : (t125 == 0) = true := beq_iff_eq.mpr c3
 have c3b1 : (t125 != 0) = false := bne_eq_false_iff_eq.mpr c3
 clear c3
 by_cases c4 : 2 ≤ 4
 {
 rw [if_pos c4] at H
 have c4b0 := eq_true c4
 have c4b1 : decide (2 ≤ 4) = true := decide_eq_true c4
 clear c4
 by_cases c5 : 4 ≤ (l0.length : Int)
 {
 rw [if_pos c5] at H
 have c5b0 := eq_true c5
 have c5b1 : decide (4 ≤ (l0.length : Int)) = true := decide_eq_true c5
 clear c5
 replace H := Option.bind_eq_some_iff.mp H
 obtain ⟨t127, A60, H⟩ := H
 replace H : (if t127 < t124 then (spec_DecodeIP.j0 k l0 t124 t127 true) else (spec_DecodeIP.j0 k l0 t124 t127 (decide (t127 > (l0.length : Int))))) = some (r1, r2, r3, r4, r5, r6, r7, r8, r9, r10, r11, r12) := H
 have A6 := Aside0.mk A60
 clear A60
 have HC7 := Aside0.mk H
 clear H
 go_enter Try.func30, Try.ntmps30
 go_upto_region 5 with (first | ((with_reducible refine gate_dst (N := 2) rfl ?_); (try (refine gate_guard (by rfl) ?_; dsimp only)); refine box_event ?hg (N := 2) ?hd (cs := #[.int .i64 0, .int .i64 0, .bool false, .bool false, .int .i64 0, .int .i64 0, .int .i64 0, .int .i64 0, .int .i64 0, .slice none 0 0, .slice none 0 0]) (t := 51) ?hr ?_; (case hd => rfl); (case hg => rfl); (case hr => first | (go_simp; done) | (go_simp; rfl)); intro gb123 hg w1001 hbox hb; have n0_ := Aside0.mk (below_step wB hb); have n1_ := Aside0.mk (hbox); have n2_ := Aside0.mk ((by rw [hg]; exact (below_size wB) : w.heap.size ≤ gb123)); have n3_ := Aside0.mk ((by rw [hg]; exact (below_size wB) : w.heap.size ≤ gb123)); clear HB; have HB := n0_; have BK123 := n1_; have GW123 := n2_; have GE123 := n3_; clear n0_ n1_ n2_ n3_; clear hb hbox hg) | ((with_reducible refine gate_callee (f := 69) rfl ?_); refine goesL_ (some 11) rfl rfl Try.func69 (by kernel_rfl) rfl #[.slice A0 l0.length c0] rfl wT ?_; (with_reducible refine (spec_l05ReadHead.calls k _ _ l0 t124 t125 _ ?side1 ?side2 A2.out).mono ?_); (case side1 => exact Kd.C_below HR0.out wB); (case side2 => exact HC0.out); rintro e w' ⟨rfl, ⟨nd, rfl⟩⟩; refine ⟨_, rfl, ?_⟩; obtain ⟨i01002, hi01002, _, hsz1002, _⟩ := info_parts info5; obtain ⟨A1002, hcut1002, hA1002, hC1002⟩ := print_mid_of (P := Try.prog) (Value.int .u8) 0 22 5 .i64 .i64 Try.underlying22 hi01002 hsz1002 A0 c0 l0 2 4 (by omega) (by first | omega | exact of_decide_eq_true (by first | (with_reducible assumption) | assumption)) (of_decide_eq_true (by first | (with_reducible assumption) | assumption)) HC0.out; have HR126 := Aside0.mk (Kd.C_of_reads (h1 := fun _ => rfl) (hA1002 _ (Kd.reads_of_C HR0.out))); have HC126 := Aside0.mk hC1002; clear hA1002 hC1002 hi01002 hsz1002) | ((with_reducible refine gate_callee (f := 70) rfl ?_); refine goesL_ (some 20) rfl rfl Try.func70 (by kernel_rfl) rfl #[.slice A1002 ((l0.take 4).drop 2).length (c0 - 2)] rfl (by (try simp only [List.map_toArray, List.map_cons, List.map_nil]); first | done | (rw [show ((l0.take 4).drop 2).length = (4 - 2) from (by rw [List.length_drop, List.length_take]; have h_ : (4 : Int) ≤ (l0.length : Int) := of_decide_eq_true (by first | (with_reducible assumption) | assumption); omega)] <;> rfl) | rfl | (simp only [List.length_drop, List.length_take]; rfl)) ?_; (with_reducible refine (spec_l03Num.calls k _ _ ((l0.take 4).drop 2) t127 _ ?side1 ?side2 A6.out).mono ?_); (case side1 => repeat (first | exact (Kd.C_below HR126.out wB) | (with_reducible refine Kd.C_alloc ?_ _) | (with_reducible refine Kd.C_drewN ?_ _) | (with_reducible refine Kd.C_drew ?_))); (case side2 => exact HC126.out); rintro e w' ⟨rfl, ⟨nd, rfl⟩⟩; refine ⟨_, rfl, ?_⟩))
 (try simp only [Act.put, List.setIfInBounds_toArray, List.set_cons_zero, List.set_cons_succ])
 go_cut [29] (fun v29 wc => ∃ (kq : Nat) (x29_6 : Bool), v29 = .bool x29_6 ∧ Aside0 (spec_DecodeIP.j0 kq l0 t124 t127 x29_6 = some (r1, r2, r3, r4, r5, r6, r7, r8, r9, r10, r11, r12)) ∧ Aside0 (kq ≤ k) ∧ Aside0 (wc.heap[gb123]? = some (.cells #[.int .i64 0, .int .i64 0, .bool false, .bool false, .int .i64 0, .int .i64 0, .int .i64 0, .int .i64 0, .int .i64 0, (.slice none 0 0), (.slice none 0 0)] 51 (0, 0))) ∧ Aside0 (Below w.heap.size w wc))
 case first => (
 have H := HC7.out
 clear HC7
 by_cases c1003 : t127 < t124
 {
 rw [if_pos c1003] at H
 have c1003b0 : decide (t127 < t124) = true := decide_eq_true c1003
 clear c1003
 (first | rw [c1003b0] | (simp only [i64_w, i32_w]; rw [c1003b0]) | skip)
 have H' := Aside0.mk H
 clear H
 go_wp2
 go_meet
 case rel => exact ⟨_, (true), (by first | rfl | (simp; done) | (simp [*]; done)), H', ⟨by first | omega | exact Nat.le_refl _⟩, ⟨Bh BK123⟩, ⟨wB⟩⟩
 }
 {
 rw [if_neg c1003] at H
 have c1003b0 : decide (t127 < t124) = false := decide_eq_false c1003
 clear c1003
 (first | rw [c1003b0] | (simp only [i64_w, i32_w]; rw [c1003b0]) | skip)
 have H' := Aside0.mk H
 clear H
 go_wp2
 go_meet
 case rel => exact ⟨_, (decide (t127 > (l0.length : Int))), (by first | rfl | (simp; done) | (simp [*]; done)), H', ⟨by first | omega | exact Nat.le_refl _⟩, ⟨Bh BK123⟩, ⟨wB⟩⟩
 }
 )
 case rest => (
 clear HC7
 try clear c0
 try clear c3
 try clear c3b0
 try clear c3b1
 try clear c4
 try clear c4b0
 try clear c4b1
 try clear c5
 try clear c5b0
 try clear c5b1
 try clear c1003
 try clear c1003b0
 obtain ⟨kq, x29_6, rfl, HA, HJ6, BK123, HB⟩ := hcut
 cases kq with
 | zero => exact absurd HA.out (by simp [spec_DecodeIP.j0])
 | succ kj6 => {
 have H := HA.out
 clear HA
 simp only [spec_DecodeIP.j0] at H
 by_cases c1004 : x29_6 = true
 subst c1004
 have H1 : (some (0, 0, false, false, 0, 0, 0, 0, 0, ([] : List Int), ([] : List Int), 5)) = some (r1, r2, r3, r4, r5, r6, r7, r8, r9, r10, r11, r12) := by rw [if_pos rfl] at H; exact H
 clear H
 have H := H1
 clear H1
 simp only [Option.some.injEq, Prod.mk.injEq] at H
 obtain ⟨rfl, rfl, rfl, rfl, rfl, rfl, rfl, rfl, rfl, rfl, rfl, rfl⟩ := H
 rotate_left
 replace c1004 := Bool.eq_false_iff.mpr c1004
 subst c1004
 have H1 : (if 6 ≤ 8 then (if 8 ≤ (l0.length : Int) then ((spec_l03Num.f kj6 ((l0.take 8).drop 6)).bind fun t129 => (if 1 < (l0.length : Int) then (if 4 ≤ 6 then (if 6 ≤ (l0.length : Int) then ((spec_l03Num.f kj6 ((l0.take 6).drop 4)).bind fun t132 => (if 8 < (l0.length : Int) then (if 9 < (l0.length : Int) then (if 12 ≤ 16 then (if 16 ≤ (l0.length : Int) then ((spec_l03Num.f kj6 ((l0.take 16).drop 12)).bind fun t136 => (if 16 ≤ 20 then (if 20 ≤ (l0.length : Int) then ((spec_l03Num.f kj6 ((l0.take 20).drop 16)).bind fun t138 => (if 20 ≤ t124 then (if t124 ≤ (l0.length : Int) then ((spec_l01Copy.f kj6 ((l0.take (t124 : Int).toNat).drop 20)).bind fun t140 => (if 0 ≤ t124 then (if t124 ≤ t127 then (if t127 ≤ (l0.length : Int) then ((spec_l01Copy.f kj6 ((l0.take (t127 : Int).toNat).drop (t124 : Int).toNat)).bind fun t144 => (if (Go.bits .and .i64 t129 32768) = 0 then (if (wrap64 ((wrap64 ((Int.tmod t129 8192) * 8)) + (t144.length : Int))) > 65535 then (some (0, 0, false, false, 0, 0, 0, 0, 0, ([] : List Int), ([] : List Int), 1)) else (some (wrap64 (rd l0 1), t132, ((Go.bits .and .i64 t129 16384) != 0), ((Go.bits .and .i64 t129 8192) != 0), wrap64 ((Int.tmod t129 8192) * 8), wrap64 (rd l0 8), wrap64 (rd l0 9), t136, t138, t140, t144, 0))) else (some (0, 0, false, false, 0, 0, 0, 0, 0, ([] : List Int), ([] : List Int), 1)))) else (none)) else (none)) else (none))) else (none)) else (none))) else (none)) else (none))) else (none)) else (none)) else (none)) else (none))) else (none)) else (none)) else (none))) else (none)) else (none)) = some (r1, r2, r3, r4, r5, r6, r7, r8, r9, r10, r11, r12) := by rw [if_neg (show ¬ (false = true) by decide)] at H; exact H
 clear H
 have H := H1
 clear H1
 by_cases c1005 : 6 ≤ 8
 rw [if_pos c1005] at H
 have c1005b0 := eq_true c1005
 have c1005b1 : decide (6 ≤ 8) = true := decide_eq_true c1005
 clear c1005
 by_cases c1006 : 8 ≤ (l0.length : Int)
 rw [if_pos c1006] at H
 have c1006b0 := eq_true c1006
 have c1006b1 : decide (8 ≤ (l0.length : Int)) = true := decide_eq_true c1006
 clear c1006
 replace H := Option.bind_eq_some_iff.mp H
 obtain ⟨t129, A10070, H⟩ := H
 replace H : (if 1 < (l0.length : Int) then (if 4 ≤ 6 then (if 6 ≤ (l0.length : Int) then ((spec_l03Num.f kj6 ((l0.take 6).drop 4)).bind fun t132 => (if 8 < (l0.length : Int) then (if 9 < (l0.length : Int) then (if 12 ≤ 16 then (if 16 ≤ (l0.length : Int) then ((spec_l03Num.f kj6 ((l0.take 16).drop 12)).bind fun t136 => (if 16 ≤ 20 then (if 20 ≤ (l0.length : Int) then ((spec_l03Num.f kj6 ((l0.take 20).drop 16)).bind fun t138 => (if 20 ≤ t124 then (if t124 ≤ (l0.length : Int) then ((spec_l01Copy.f kj6 ((l0.take (t124 : Int).toNat).drop 20)).bind fun t140 => (if 0 ≤ t124 then (if t124 ≤ t127 then (if t127 ≤ (l0.length : Int) then ((spec_l01Copy.f kj6 ((l0.take (t127 : Int).toNat).drop (t124 : Int).toNat)).bind fun t144 => (if (Go.bits .and .i64 t129 32768) = 0 then (if (wrap64 ((wrap64 ((Int.tmod t129 8192) * 8)) + (t144.length : Int))) > 65535 then (some (0, 0, false, false, 0, 0, 0, 0, 0, ([] : List Int), ([] : List Int), 1)) else (some (wrap64 (rd l0 1), t132, ((Go.bits .and .i64 t129 16384) != 0), ((Go.bits .and .i64 t129 8192) != 0), wrap64 ((Int.tmod t129 8192) * 8), wrap64 (rd l0 8), wrap64 (rd l0 9), t136, t138, t140, t144, 0))) else (some (0, 0, false, false, 0, 0, 0, 0, 0, ([] : List Int), ([] : List Int), 1)))) else (none)) else (none)) else (none))) else (none)) else (none))) else (none)) else (none))) else (none)) else (none)) else (none)) else (none))) else (none)) else (none)) else (none)) = some (r1, r2, r3, r4, r5, r6, r7, r8, r9, r10, r11, r12) := H
 have A1007 := Aside0.mk A10070
 clear A10070
 by_cases c1008 : 1 < (l0.length : Int)
 rw [if_pos c1008] at H
 have c1008b0 : decide (1 < (l0.length : Int)) = true := decide_eq_true c1008
 have c1008b1 : decide (1 < l0.length) = true := decide_eq_true (by omega)
 clear c1008
 by_cases c1009 : 4 ≤ 6
 rw [if_pos c1009] at H
 have c1009b0 := eq_true c1009
 have c1009b1 : decide (4 ≤ 6) = true := decide_eq_true c1009
 clear c1009
 by_cases c1010 : 6 ≤ (l0.length : Int)
 rw [if_pos c1010] at H
 have c1010b0 := eq_true c1010
 have c1010b1 : decide (6 ≤ (l0.length : Int)) = true := decide_eq_true c1010
 clear c1010
 replace H := Option.bind_eq_some_iff.mp H
 obtain ⟨t132, A10110, H⟩ := H
 replace H : (if 8 < (l0.length : Int) then (if 9 < (l0.length : Int) then (if 12 ≤ 16 then (if 16 ≤ (l0.length : Int) then ((spec_l03Num.f kj6 ((l0.take 16).drop 12)).bind fun t136 => (if 16 ≤ 20 then (if 20 ≤ (l0.length : Int) then ((spec_l03Num.f kj6 ((l0.take 20).drop 16)).bind fun t138 => (if 20 ≤ t124 then (if t124 ≤ (l0.length : Int) then ((spec_l01Copy.f kj6 ((l0.take (t124 : Int).toNat).drop 20)).bind fun t140 => (if 0 ≤ t124 then (if t124 ≤ t127 then (if t127 ≤ (l0.length : Int) then ((spec_l01Copy.f kj6 ((l0.take (t127 : Int).toNat).drop (t124 : Int).toNat)).bind fun t144 => (if (Go.bits .and .i64 t129 32768) = 0 then (if (wrap64 ((wrap64 ((Int.tmod t129 8192) * 8)) + (t144.length : Int))) > 65535 then (some (0, 0, false, false, 0, 0, 0, 0, 0, ([] : List Int), ([] : List Int), 1)) else (some (wrap64 (rd l0 1), t132, ((Go.bits .and .i64 t129 16384) != 0), ((Go.bits .and .i64 t129 8192) != 0), wrap64 ((Int.tmod t129 8192) * 8), wrap64 (rd l0 8), wrap64 (rd l0 9), t136, t138, t140, t144, 0))) else (some (0, 0, false, false, 0, 0, 0, 0, 0, ([] : List Int), ([] : List Int), 1)))) else (none)) else (none)) else (none))) else (none)) else (none))) else (none)) else (none))) else (none)) else (none)) else (none)) else (none)) = some (r1, r2, r3, r4, r5, r6, r7, r8, r9, r10, r11, r12) := H
 have A1011 := Aside0.mk A10110
 clear A10110
 by_cases c1012 : 8 < (l0.length : Int)
 rw [if_pos c1012] at H
 have c1012b0 : decide (8 < (l0.length : Int)) = true := decide_eq_true c1012
 have c1012b1 : decide (8 < l0.length) = true := decide_eq_true (by omega)
 clear c1012
 by_cases c1013 : 9 < (l0.length : Int)
 rw [if_pos c1013] at H
 have c1013b0 : decide (9 < (l0.length : Int)) = true := decide_eq_true c1013
 have c1013b1 : decide (9 < l0.length) = true := decide_eq_true (by omega)
 clear c1013
 by_cases c1014 : 12 ≤ 16
 rw [if_pos c1014] at H
 have c1014b0 := eq_true c1014
 have c1014b1 : decide (12 ≤ 16) = true := decide_eq_true c1014
 clear c1014
 by_cases c1015 : 16 ≤ (l0.length : Int)
 rw [if_pos c1015] at H
 have c1015b0 := eq_true c1015
 have c1015b1 : decide (16 ≤ (l0.length : Int)) = true := decide_eq_true c1015
 clear c1015
 replace H := Option.bind_eq_some_iff.mp H
 obtain ⟨t136, A10160, H⟩ := H
 replace H : (if 16 ≤ 20 then (if 20 ≤ (l0.length : Int) then ((spec_l03Num.f kj6 ((l0.take 20).drop 16)).bind fun t138 => (if 20 ≤ t124 then (if t124 ≤ (l0.length : Int) then ((spec_l01Copy.f kj6 ((l0.take (t124 : Int).toNat).drop 20)).bind fun t140 => (if 0 ≤ t124 then (if t124 ≤ t127 then (if t127 ≤ (l0.length : Int) then ((spec_l01Copy.f kj6 ((l0.take (t127 : Int).toNat).drop (t124 : Int).toNat)).bind fun t144 => (if (Go.bits .and .i64 t129 32768) = 0 then (if (wrap64 ((wrap64 ((Int.tmod t129 8192) * 8)) + (t144.length : Int))) > 65535 then (some (0, 0, false, false, 0, 0, 0, 0, 0, ([] : List Int), ([] : List Int), 1)) else (some (wrap64 (rd l0 1), t132, ((Go.bits .and .i64 t129 16384) != 0), ((Go.bits .and .i64 t129 8192) != 0), wrap64 ((Int.tmod t129 8192) * 8), wrap64 (rd l0 8), wrap64 (rd l0 9), t136, t138, t140, t144, 0))) else (some (0, 0, false, false, 0, 0, 0, 0, 0, ([] : List Int), ([] : List Int), 1)))) else (none)) else (none)) else (none))) else (none)) else (none))) else (none)) else (none)) = some (r1, r2, r3, r4, r5, r6, r7, r8, r9, r10, r11, r12) := H
 have A1016 := Aside0.mk A10160
 clear A10160
 by_cases c1017 : 16 ≤ 20
 rw [if_pos c1017] at H
 have c1017b0 := eq_true c1017
 have c1017b1 : decide (16 ≤ 20) = true := decide_eq_true c1017
 clear c1017
 by_cases c1018 : 20 ≤ (l0.length : Int)
 rw [if_pos c1018] at H
 have c1018b0 := eq_true c1018
 have c1018b1 : decide (20 ≤ (l0.length : Int)) = true := decide_eq_true c1018
 clear c1018
 replace H := Option.bind_eq_some_iff.mp H
 obtain ⟨t138, A10190, H⟩ := H
 replace H : (if 20 ≤ t124 then (if t124 ≤ (l0.length : Int) then ((spec_l01Copy.f kj6 ((l0.take (t124 : Int).toNat).drop 20)).bind fun t140 => (if 0 ≤ t124 then (if t124 ≤ t127 then (if t127 ≤ (l0.length : Int) then ((spec_l01Copy.f kj6 ((l0.take (t127 : Int).toNat).drop (t124 : Int).toNat)).bind fun t144 => (if (Go.bits .and .i64 t129 32768) = 0 then (if (wrap64 ((wrap64 ((Int.tmod t129 8192) * 8)) + (t144.length : Int))) > 65535 then (some (0, 0, false, false, 0, 0, 0, 0, 0, ([] : List Int), ([] : List Int), 1)) else (some (wrap64 (rd l0 1), t132, ((Go.bits .and .i64 t129 16384) != 0), ((Go.bits .and .i64 t129 8192) != 0), wrap64 ((Int.tmod t129 8192) * 8), wrap64 (rd l0 8), wrap64 (rd l0 9), t136, t138, t140, t144, 0))) else (some (0, 0, false, false, 0, 0, 0, 0, 0, ([] : List Int), ([] : List Int), 1)))) else (none)) else (none)) else (none))) else (none)) else (none)) = some (r1, r2, r3, r4, r5, r6, r7, r8, r9, r10, r11, r12) := H
 have A1019 := Aside0.mk A10190
 clear A10190
 by_cases c1020 : 20 ≤ t124
 rw [if_pos c1020] at H
 have c1020b0 := eq_true c1020
 have c1020b1 : decide (20 ≤ t124) = true := decide_eq_true c1020
 clear c1020
 by_cases c1021 : t124 ≤ (l0.length : Int)
 rw [if_pos c1021] at H
 have c1021b0 := eq_true c1021
 have c1021b1 : decide (t124 ≤ (l0.length : Int)) = true := decide_eq_true c1021
 clear c1021
 replace H := Option.bind_eq_some_iff.mp H
 obtain ⟨t140, A10220, H⟩ := H
 replace H : (if 0 ≤ t124 then (if t124 ≤ t127 then (if t127 ≤ (l0.length : Int) then ((spec_l01Copy.f kj6 ((l0.take (t127 : Int).toNat).drop (t124 : Int).toNat)).bind fun t144 => (if (Go.bits .and .i64 t129 32768) = 0 then (if (wrap64 ((wrap64 ((Int.tmod t129 8192) * 8)) + (t144.length : Int))) > 65535 then (some (0, 0, false, false, 0, 0, 0, 0, 0, ([] : List Int), ([] : List Int), 1)) else (some (wrap64 (rd l0 1), t132, ((Go.bits .and .i64 t129 16384) != 0), ((Go.bits .and .i64 t129 8192) != 0), wrap64 ((Int.tmod t129 8192) * 8), wrap64 (rd l0 8), wrap64 (rd l0 9), t136, t138, t140, t144, 0))) else (some (0, 0, false, false, 0, 0, 0, 0, 0, ([] : List Int), ([] : List Int), 1)))) else (none)) else (none)) else (none)) = some (r1, r2, r3, r4, r5, r6, r7, r8, r9, r10, r11, r12) := H
 have A1022 := Aside0.mk A10220
 clear A10220
 by_cases c1023 : 0 ≤ t124
 rw [if_pos c1023] at H
 have c1023b0 := eq_true c1023
 have c1023b1 : decide (0 ≤ t124) = true := decide_eq_true c1023
 clear c1023
 by_cases c1024 : t124 ≤ t127
 rw [if_pos c1024] at H
 have c1024b0 := eq_true c1024
 have c1024b1 : decide (t124 ≤ t127) = true := decide_eq_true c1024
 clear c1024
 by_cases c1025 : t127 ≤ (l0.length : Int)
 rw [if_pos c1025] at H
 have c1025b0 := eq_true c1025
 have c1025b1 : decide (t127 ≤ (l0.length : Int)) = true := decide_eq_true c1025
 clear c1025
 replace H := Option.bind_eq_some_iff.mp H
 obtain ⟨t144, A10260, H⟩ := H
 replace H : (if (Go.bits .and .i64 t129 32768) = 0 then (if (wrap64 ((wrap64 ((Int.tmod t129 8192) * 8)) + (t144.length : Int))) > 65535 then (some (0, 0, false, false, 0, 0, 0, 0, 0, ([] : List Int), ([] : List Int), 1)) else (some (wrap64 (rd l0 1), t132, ((Go.bits .and .i64 t129 16384) != 0), ((Go.bits .and .i64 t129 8192) != 0), wrap64 ((Int.tmod t129 8192) * 8), wrap64 (rd l0 8), wrap64 (rd l0 9), t136, t138, t140, t144, 0))) else (some (0, 0, false, false, 0, 0, 0, 0, 0, ([] : List Int), ([] : List Int), 1))) = some (r1, r2, r3, r4, r5, r6, r7, r8, r9, r10, r11, r12) := H
 have A1026 := Aside0.mk A10260
 clear A10260
 by_cases c1027 : (Go.bits .and .i64 t129 32768) = 0
 rw [if_pos c1027] at H
 have c1027b0 : ((Go.bits .and .i64 t129 32768) == 0) = true := beq_iff_eq.mpr c1027
 have c1027b1 : ((Go.bits .and .i64 t129 32768) != 0) = false := bne_eq_false_iff_eq.mpr c1027
 clear c1027
 by_cases c1028 : (wrap64 ((wrap64 ((Int.tmod t129 8192) * 8)) + (t144.length : Int))) > 65535
 rw [if_pos c1028] at H
 have c1028b0 : decide (65535 < (wrap64 ((wrap64 ((Int.tmod t129 8192) * 8)) + (t144.length : Int)))) = true := decide_eq_true c1028
 clear c1028
 simp only [Option.some.injEq, Prod.mk.injEq] at H
 obtain ⟨rfl, rfl, rfl, rfl, rfl, rfl, rfl, rfl, rfl, rfl, rfl, rfl⟩ := H
 rotate_left
 rw [if_neg c1028] at H
 have c1028b0 : decide (65535 < (wrap64 ((wrap64 ((Int.tmod t129 8192) * 8)) + (t144.length : Int)))) = false := decide_eq_false c1028
 clear c1028
 simp only [Option.some.injEq, Prod.mk.injEq] at H
 obtain ⟨rfl, rfl, rfl, rfl, rfl, rfl, rfl, rfl, rfl, rfl, rfl, rfl⟩ := H
 rotate_left
 rw [if_neg c1027] at H
 have c1027b0 : ((Go.bits .and .i64 t129 32768) == 0) = false := beq_eq_false_iff_ne.mpr c1027
 have c1027b1 : ((Go.bits .and .i64 t129 32768) != 0) = true := bne_iff_ne.mpr c1027
 simp only [Option.some.injEq, Prod.mk.injEq] at H
 obtain ⟨rfl, rfl, rfl, rfl, rfl, rfl, rfl, rfl, rfl, rfl, rfl, rfl⟩ := H
 rotate_left
 rw [if_neg c1025] at H
 exact absurd H (by simp)
 rw [if_neg c1024] at H
 exact absurd H (by simp)
 rw [if_neg c1023] at H
 exact absurd H (by simp)
 rw [if_neg c1021] at H
 exact absurd H (by simp)
 rw [if_neg c1020] at H
 exact absurd H (by simp)
 rw [if_neg c1018] at H
 exact absurd H (by simp)
 rw [if_neg c1017] at H
 exact absurd H (by simp)
 rw [if_neg c1015] at H
 exact absurd H (by simp)
 rw [if_neg c1014] at H
 exact absurd H (by simp)
 rw [if_neg c1013] at H
 exact absurd H (by simp)
 rw [if_neg c1012] at H
 exact absurd H (by simp)
 rw [if_neg c1010] at H
 exact absurd H (by simp)
 rw [if_neg c1009] at H
 exact absurd H (by simp)
 rw [if_neg c1008] at H
 exact absurd H (by simp)
 rw [if_neg c1006] at H
 exact absurd H (by simp)
 rw [if_neg c1005] at H
 exact absurd H (by simp)
 {
 obtain ⟨⟨hcz2001_0, hcz2001_1, hcz2001_2, hcz2001_3, hcz2001_4, hcz2001_5, hcz2001_6, hcz2001_7, hcz2001_8, hcz2001_9, hcz2001_10⟩, hfz2001_0, hfz2001_1, hfz2001_2, hfz2001_3, hfz2001_4, hfz2001_5, hfz2001_6, hfz2001_7, hfz2001_8, hfz2001_9, hfz2001_10⟩ := cells11 BK123.out
 go_wp2_with (first | ((with_reducible refine gate_store (t := 51) (p := 2) rfl ?_); (try (rw [drewN_self wc]; generalize hq_ : World.drewN wc _ = wc; have n0_ := Aside0.mk (blk_at hq_ BK123.out); have n1_ := Aside0.mk (below_at hq_ HB.out); clear hq_ BK123 HB; have BK123 := n0_; have HB := n1_; clear n0_ n1_; (try (obtain ⟨⟨hcyBK123_0, hcyBK123_1, hcyBK123_2, hcyBK123_3, hcyBK123_4, hcyBK123_5, hcyBK123_6, hcyBK123_7, hcyBK123_8, hcyBK123_9, hcyBK123_10⟩, hfyBK123_0, hfyBK123_1, hfyBK123_2, hfyBK123_3, hfyBK123_4, hfyBK123_5, hfyBK123_6, hfyBK123_7, hfyBK123_8, hfyBK123_9, hfyBK123_10⟩ := cells11 BK123.out)))); refine store_event (t := 51) (p := 2) (v := ?_) (w1 := (((((((((((wc.setCell ⟨gb123, 0, none⟩ (.int .i64 0)).setCell ⟨gb123, 1, none⟩ (.int .i64 0)).setCell ⟨gb123, 2, none⟩ (.bool false)).setCell ⟨gb123, 3, none⟩ (.bool false)).setCell ⟨gb123, 4, none⟩ (.int .i64 0)).setCell ⟨gb123, 5, none⟩ (.int .i64 0)).setCell ⟨gb123, 6, none⟩ (.int .i64 0)).setCell ⟨gb123, 7, none⟩ (.int .i64 0)).setCell ⟨gb123, 8, none⟩ (.int .i64 0)).setCell ⟨gb123, 9, none⟩ (.slice none 0 0)).setCell ⟨gb123, 10, none⟩ (.slice none 0 0))) ?hg ?ho ?hn ?hr ?_; (case ho => rfl); (case hg => rfl); (case hn => rfl); (case hr => first | (go_simp; done) | (go_simp; rfl)); intro w2002 hw; have n0_ : Aside0 (w2002.heap[gb123]? = some (.cells #[.int .i64 0, .int .i64 0, .bool false, .bool false, .int .i64 0, .int .i64 0, .int .i64 0, .int .i64 0, .int .i64 0, .slice none 0 0, .slice none 0 0] 51 (0, 0))) := ⟨(by rw [hw]; exact (by (with_reducible repeat (first | refine blk_drewN ?_ _ | refine blk_drew ?_ | refine blk_alloc ?_ _)); refine blk_put (cs := #[.int .i64 0, .int .i64 0, .bool false, .bool false, .int .i64 0, .int .i64 0, .int .i64 0, .int .i64 0, .int .i64 0, .slice none 0 0, .slice none 0 0]) ?_ 10 _ rfl; (with_reducible repeat (first | refine blk_drewN ?_ _ | refine blk_drew ?_ | refine blk_alloc ?_ _)); refine blk_put (cs := #[.int .i64 0, .int .i64 0, .bool false, .bool false, .int .i64 0, .int .i64 0, .int .i64 0, .int .i64 0, .int .i64 0, .slice none 0 0, .slice none 0 0]) ?_ 9 _ rfl; (with_reducible repeat (first | refine blk_drewN ?_ _ | refine blk_drew ?_ | refine blk_alloc ?_ _)); refine blk_put (cs := #[.int .i64 0, .int .i64 0, .bool false, .bool false, .int .i64 0, .int .i64 0, .int .i64 0, .int .i64 0, .int .i64 0, .slice none 0 0, .slice none 0 0]) ?_ 8 _ rfl; (with_reducible repeat (first | refine blk_drewN ?_ _ | refine blk_drew ?_ | refine blk_alloc ?_ _)); refine blk_put (cs := #[.int .i64 0, .int .i64 0, .bool false, .bool false, .int .i64 0, .int .i64 0, .int .i64 0, .int .i64 0, .int .i64 0, .slice none 0 0, .slice none 0 0]) ?_ 7 _ rfl; (with_reducible repeat (first | refine blk_drewN ?_ _ | refine blk_drew ?_ | refine blk_alloc ?_ _)); refine blk_put (cs := #[.int .i64 0, .int .i64 0, .bool false, .bool false, .int .i64 0, .int .i64 0, .int .i64 0, .int .i64 0, .int .i64 0, .slice none 0 0, .slice none 0 0]) ?_ 6 _ rfl; (with_reducible repeat (first | refine blk_drewN ?_ _ | refine blk_drew ?_ | refine blk_alloc ?_ _)); refine blk_put (cs := #[.int .i64 0, .int .i64 0, .bool false, .bool false, .int .i64 0, .int .i64 0, .int .i64 0, .int .i64 0, .int .i64 0, .slice none 0 0, .slice none 0 0]) ?_ 5 _ rfl; (with_reducible repeat (first | refine blk_drewN ?_ _ | refine blk_drew ?_ | refine blk_alloc ?_ _)); refine blk_put (cs := #[.int .i64 0, .int .i64 0, .bool false, .bool false, .int .i64 0, .int .i64 0, .int .i64 0, .int .i64 0, .int .i64 0, .slice none 0 0, .slice none 0 0]) ?_ 4 _ rfl; (with_reducible repeat (first | refine blk_drewN ?_ _ | refine blk_drew ?_ | refine blk_alloc ?_ _)); refine blk_put (cs := #[.int .i64 0, .int .i64 0, .bool false, .bool false, .int .i64 0, .int .i64 0, .int .i64 0, .int .i64 0, .int .i64 0, .slice none 0 0, .slice none 0 0]) ?_ 3 _ rfl; (with_reducible repeat (first | refine blk_drewN ?_ _ | refine blk_drew ?_ | refine blk_alloc ?_ _)); refine blk_put (cs := #[.int .i64 0, .int .i64 0, .bool false, .bool false, .int .i64 0, .int .i64 0, .int .i64 0, .int .i64 0, .int .i64 0, .slice none 0 0, .slice none 0 0]) ?_ 2 _ rfl; (with_reducible repeat (first | refine blk_drewN ?_ _ | refine blk_drew ?_ | refine blk_alloc ?_ _)); refine blk_put (cs := #[.int .i64 0, .int .i64 0, .bool false, .bool false, .int .i64 0, .int .i64 0, .int .i64 0, .int .i64 0, .int .i64 0, .slice none 0 0, .slice none 0 0]) ?_ 1 _ rfl; (with_reducible repeat (first | refine blk_drewN ?_ _ | refine blk_drew ?_ | refine blk_alloc ?_ _)); refine blk_put (cs := #[.int .i64 0, .int .i64 0, .bool false, .bool false, .int .i64 0, .int .i64 0, .int .i64 0, .int .i64 0, .int .i64 0, .slice none 0 0, .slice none 0 0]) ?_ 0 _ rfl; (with_reducible repeat (first | refine blk_drewN ?_ _ | refine blk_drew ?_ | refine blk_alloc ?_ _)); exact BK123.out))⟩; have n1_ : Aside0 (Below w.heap.size w w2002) := ⟨(by rw [hw]; exact wB)⟩; clear hw; clear BK123; clear HB; have BK123 := n0_; have HB := n1_; clear n0_ n1_))
 refine bodyPost_ret (results_ct rfl _ _ gb123 51 #[.int .i64 0, .int .i64 0, .bool false, .bool false, .int .i64 0, .int .i64 0, .int .i64 0, .int .i64 0, .int .i64 0, .slice none 0 0, .slice none 0 0] (0, 0) _ rfl (Bh BK123) Try.underlying51 rfl (by kernel_rfl)) rfl ?_
 exact ⟨_, _, by first | rfl | (simp [errW_none, errW_some] <;> rfl) | (simp [*, errW_none, errW_some] <;> rfl), by first | exact Kd.R_nil _ _ _ _ _ | exact Kd.N_nil _ _ _ _ _ | exact Kd.V_nil _ _ _ _ _ | exact Kd.Q_nil _ _ _ _ _ | exact Kd.S_nil _ _ _ _ _, by first | exact Kd.R_nil _ _ _ _ _ | exact Kd.N_nil _ _ _ _ _ | exact Kd.V_nil _ _ _ _ _ | exact Kd.Q_nil _ _ _ _ _ | exact Kd.S_nil _ _ _ _ _, wB⟩
 }
 all_goals (
 obtain ⟨i02001, hi02001, _, hsz2001, _⟩ := info_parts info5
 obtain ⟨A2001, hcut2001, hA2001, hC2001⟩ := print_mid_of (P := Try.prog) (Value.int .u8) 0 22 5 .i64 .i64 Try.underlying22 hi02001 hsz2001 A0 c0 l0 6 8 (by omega) (by first | omega | exact of_decide_eq_true (by first | (with_reducible assumption) | assumption)) (of_decide_eq_true (by first | (with_reducible assumption) | assumption)) HC0.out
 have HR128 := Aside0.mk (Kd.C_of_reads (h1 := fun _ => rfl) (hA2001 _ (Kd.reads_of_C HR0.out)))
 have HC128 := Aside0.mk hC2001
 clear hA2001 hC2001 hi02001 hsz2001
 try go_wp2_with (first | ((with_reducible refine gate_callee (f := 70) rfl ?_); refine goesL_ (some 33) rfl rfl Try.func70 (by kernel_rfl) rfl #[.slice A2001 ((l0.take 8).drop 6).length (c0 - 6)] rfl (by (try simp only [List.map_toArray, List.map_cons, List.map_nil]); first | done | (rw [show ((l0.take 8).drop 6).length = (8 - 6) from (by rw [List.length_drop, List.length_take]; have h_ : (8 : Int) ≤ (l0.length : Int) := of_decide_eq_true (by first | (with_reducible assumption) | assumption); omega)] <;> rfl) | rfl | (simp only [List.length_drop, List.length_take]; rfl)) ?_; (with_reducible refine (spec_l03Num.calls kj6 _ _ ((l0.take 8).drop 6) t129 _ ?side1 ?side2 A1007.out).mono ?_); (case side1 => exact Kd.C_below HR128.out wB); (case side2 => exact HC128.out); rintro e w' ⟨rfl, ⟨nd, rfl⟩⟩; refine ⟨_, rfl, ?_⟩; (try (rw [drewN_self wc]; generalize hq_ : World.drewN wc _ = wc; have n0_ := Aside0.mk (blk_at hq_ BK123.out); have n1_ := Aside0.mk (below_at hq_ HB.out); clear hq_ BK123 HB; have BK123 := n0_; have HB := n1_; clear n0_ n1_; (try (obtain ⟨⟨hcyBK123_0, hcyBK123_1, hcyBK123_2, hcyBK123_3, hcyBK123_4, hcyBK123_5, hcyBK123_6, hcyBK123_7, hcyBK123_8, hcyBK123_9, hcyBK123_10⟩, hfyBK123_0, hfyBK123_1, hfyBK123_2, hfyBK123_3, hfyBK123_4, hfyBK123_5, hfyBK123_6, hfyBK123_7, hfyBK123_8, hfyBK123_9, hfyBK123_10⟩ := cells11 BK123.out))))))
 have n0_ := Aside0.mk (blk_drew BK123.out)
 have n1_ := Aside0.mk (below_drew1 HB.out)
 clear BK123
 clear HB
 have BK123 := n0_
 have HB := n1_
 clear n0_ n1_
 have p130 : 0 ≤ (1 : Int) := (by omega)
 have q130 : 1 < (l0.length : Int) := of_decide_eq_true (by first | (with_reducible assumption) | assumption)
 obtain ⟨ad130, e130, hx130_0⟩ := Kd.at_int HR0.out 1 p130 q130
 have hw130_0 := hx130_0
 (try rw [show ((1 : Int)).toNat = 1 from rfl] at hw130_0)
 (try rw [show 1 * 1 = 1 from rfl] at hw130_0)
 (try simp only [Nat.reduceMul, Nat.reduceEqDiff, Go.Addr.add, ↓reduceIte] at hw130_0)
 cases e130
 (try simp only [show (1 : Int).toNat = 1 from rfl, Nat.reduceMul, Nat.reduceEqDiff, Go.Addr.add, ↓reduceIte] at hx130_0)
 have qi130 : (1 < l0.length) = True := eq_true (by omega)
 (try rw [show ((1 : Int)).toNat = 1 from rfl] at hx130_0)
 replace hx130_0 := (HB.out.cell (World.block_lt_of_cell? w _ hx130_0)).trans hx130_0
 replace p130 := eq_true p130
 replace q130 := eq_true q130
 obtain ⟨i02003, hi02003, _, hsz2003, _⟩ := info_parts info5
 obtain ⟨A2003, hcut2003, hA2003, hC2003⟩ := print_mid_of (P := Try.prog) (Value.int .u8) 0 22 5 .i64 .i64 Try.underlying22 hi02003 hsz2003 (some ad130) c0 l0 4 6 (by omega) (by first | omega | exact of_decide_eq_true (by first | (with_reducible assumption) | assumption)) (of_decide_eq_true (by first | (with_reducible assumption) | assumption)) HC0.out
 have HR131 := Aside0.mk (Kd.C_of_reads (h1 := fun _ => rfl) (hA2003 _ (Kd.reads_of_C HR0.out)))
 have HC131 := Aside0.mk hC2003
 clear hA2003 hC2003 hi02003 hsz2003
 have p133 : 0 ≤ (8 : Int) := (by omega)
 have q133 : 8 < (l0.length : Int) := of_decide_eq_true (by first | (with_reducible assumption) | assumption)
 obtain ⟨ad133, e133, hx133_0⟩ := Kd.at_int HR0.out 8 p133 q133
 have hw133_0 := hx133_0
 (try rw [show ((8 : Int)).toNat = 8 from rfl] at hw133_0)
 (try rw [show 8 * 1 = 8 from rfl] at hw133_0)
 (try simp only [Nat.reduceMul, Nat.reduceEqDiff, Go.Addr.add, ↓reduceIte] at hw133_0)
 obtain rfl : ad130 = ad133 := (by injection e133)
 (try simp only [show (8 : Int).toNat = 8 from rfl, Nat.reduceMul, Nat.reduceEqDiff, Go.Addr.add, ↓reduceIte] at hx133_0)
 have qi133 : (8 < l0.length) = True := eq_true (by omega)
 (try rw [show ((8 : Int)).toNat = 8 from rfl] at hx133_0)
 replace hx133_0 := (HB.out.cell (World.block_lt_of_cell? w _ hx133_0)).trans hx133_0
 replace p133 := eq_true p133
 replace q133 := eq_true q133
 have p134 : 0 ≤ (9 : Int) := (by omega)
 have q134 : 9 < (l0.length : Int) := of_decide_eq_true (by first | (with_reducible assumption) | assumption)
 obtain ⟨ad134, e134, hx134_0⟩ := Kd.at_int HR0.out 9 p134 q134
 have hw134_0 := hx134_0
 (try rw [show ((9 : Int)).toNat = 9 from rfl] at hw134_0)
 (try rw [show 9 * 1 = 9 from rfl] at hw134_0)
 (try simp only [Nat.reduceMul, Nat.reduceEqDiff, Go.Addr.add, ↓reduceIte] at hw134_0)
 obtain rfl : ad130 = ad134 := (by injection e134)
 (try simp only [show (9 : Int).toNat = 9 from rfl, Nat.reduceMul, Nat.reduceEqDiff, Go.Addr.add, ↓reduceIte] at hx134_0)
 have qi134 : (9 < l0.length) = True := eq_true (by omega)
 (try rw [show ((9 : Int)).toNat = 9 from rfl] at hx134_0)
 replace hx134_0 := (HB.out.cell (World.block_lt_of_cell? w _ hx134_0)).trans hx134_0
 replace p134 := eq_true p134
 replace q134 := eq_true q134
 obtain ⟨i02004, hi02004, _, hsz2004, _⟩ := info_parts info5
 obtain ⟨A2004, hcut2004, hA2004, hC2004⟩ := print_mid_of (P := Try.prog) (Value.int .u8) 0 22 5 .i64 .i64 Try.underlying22 hi02004 hsz2004 (some ad130) c0 l0 12 16 (by omega) (by first | omega | exact of_decide_eq_true (by first | (with_reducible assumption) | assumption)) (of_decide_eq_true (by first | (with_reducible assumption) | assumption)) HC0.out
 have HR135 := Aside0.mk (Kd.C_of_reads (h1 := fun _ => rfl) (hA2004 _ (Kd.reads_of_C HR0.out)))
 have HC135 := Aside0.mk hC2004
 clear hA2004 hC2004 hi02004 hsz2004
 obtain ⟨i02005, hi02005, _, hsz2005, _⟩ := info_parts info5
 obtain ⟨A2005, hcut2005, hA2005, hC2005⟩ := print_mid_of (P := Try.prog) (Value.int .u8) 0 22 5 .i64 .i64 Try.underlying22 hi02005 hsz2005 (some ad130) c0 l0 16 20 (by omega) (by first | omega | exact of_decide_eq_true (by first | (with_reducible assumption) | assumption)) (of_decide_eq_true (by first | (with_reducible assumption) | assumption)) HC0.out
 have HR137 := Aside0.mk (Kd.C_of_reads (h1 := fun _ => rfl) (hA2005 _ (Kd.reads_of_C HR0.out)))
 have HC137 := Aside0.mk hC2005
 clear hA2005 hC2005 hi02005 hsz2005
 obtain ⟨i02006, hi02006, _, hsz2006, _⟩ := info_parts info5
 obtain ⟨A2006, hcut2006, hA2006, hC2006⟩ := print_mid_of (P := Try.prog) (Value.int .u8) 0 22 5 .i64 .i64 Try.underlying22 hi02006 hsz2006 (some ad130) c0 l0 20 t124 (by omega) (by first | omega | exact of_decide_eq_true (by first | (with_reducible assumption) | assumption)) (of_decide_eq_true (by first | (with_reducible assumption) | assumption)) HC0.out
 have HR139 := Aside0.mk (Kd.C_of_reads (h1 := fun _ => rfl) (hA2006 _ (Kd.reads_of_C HR0.out)))
 have HC139 := Aside0.mk hC2006
 clear hA2006 hC2006 hi02006 hsz2006
 obtain ⟨i02007, hi02007, _, hsz2007, _⟩ := info_parts info5
 obtain ⟨A2007, hcut2007, hA2007, hC2007⟩ := print_mid_of (P := Try.prog) (Value.int .u8) 0 22 5 .i64 .i64 Try.underlying22 hi02007 hsz2007 (some ad130) c0 l0 t124 t127 (of_decide_eq_true (by first | (with_reducible assumption) | assumption)) (by first | omega | exact of_decide_eq_true (by first | (with_reducible assumption) | assumption)) (of_decide_eq_true (by first | (with_reducible assumption) | assumption)) HC0.out
 have HR143 := Aside0.mk (Kd.C_of_reads (h1 := fun _ => rfl) (hA2007 _ (Kd.reads_of_C HR0.out)))
 have HC143 := Aside0.mk hC2007
 clear hA2007 hC2007 hi02007 hsz2007
 refine start_ (n := 42) (S := fun w' => w'.cell? ⟨ad130.block, ad130.off + 1, none⟩ = some (.int .u8 (rd l0 1)) ∧ w'.cell? ⟨ad130.block, ad130.off + 8, none⟩ = some (.int .u8 (rd l0 8)) ∧ w'.cell? ⟨ad130.block, ad130.off + 9, none⟩ = some (.int .u8 (rd l0 9))) (ds := []) #[false, false, false, false, false, false, false, false, false, false, false, false, false, false, false, false, false, false, false, false, false, false, false, false, false, false, false, false, false, false, false, false, false, false, false, false, false, false, false, false, false, false] (by kernel_rfl) rfl rfl ⟨((HB.out.cell (World.block_lt_of_cell? w _ hw130_0)).trans hw130_0), ((HB.out.cell (World.block_lt_of_cell? w _ hw133_0)).trans hw133_0), ((HB.out.cell (World.block_lt_of_cell? w _ hw134_0)).trans hw134_0)⟩ (fun hHeld => ?_); refine with_tabW spec_DecodeIP.tab8 spec_DecodeIP.bits8 (fun HT_ HW_ => ?_)
 generalize wc.drew = w2002 at BK123 HB HR131 HR135 HR137 HR139 HR143 hx130_0 hx133_0 hx134_0 hHeld ⊢
 refine pure_ (i := 0) (N := some 34) (v := ?_) (a' := ?_) #[true, false, false, false, false, false, false, false, false, false, false, false, false, false, false, false, false, false, false, false, false, false, false, false, false, false, false, false, false, false, false, false, false, false, false, false, false, false, false, false, false, false] rfl rfl (any_of HT_.out (by kernel_rfl)) (fun _ _ _ h => h) (Or.inl ⟨by rfl, ?_⟩) ?_ ?_
 rotate_left
 {
 intro w'
 go_simp
 with_reducible rfl
 }
 rotate_left
 {
 simp only [Act.put, List.setIfInBounds_toArray, List.set_cons_zero, List.set_cons_succ, i64_w, i32_w]
 rfl
 }
 refine pure_ (i := 1) (N := some 35) (v := ?_) (a' := ?_) #[true, true, false, false, false, false, false, false, false, false, false, false, false, false, false, false, false, false, false, false, false, false, false, false, false, false, false, false, false, false, false, false, false, false, false, false, false, false, false, false, false, false] rfl rfl (any_of HT_.out (by kernel_rfl)) (fun _ _ _ h => h) (Or.inl ⟨by rfl, ?_⟩) ?_ ?_
 rotate_left
 {
 intro w'
 go_simp
 with_reducible rfl
 }
 rotate_left
 {
 simp only [Act.put, List.setIfInBounds_toArray, List.set_cons_zero, List.set_cons_succ, i64_w, i32_w]
 rfl
 }
 refine pure_ (i := 4) (N := some 38) (v := ?_) (a' := ?_) #[true, true, false, false, true, false, false, false, false, false, false, false, false, false, false, false, false, false, false, false, false, false, false, false, false, false, false, false, false, false, false, false, false, false, false, false, false, false, false, false, false, false] rfl rfl (any_of HT_.out (by kernel_rfl)) (fun _ _ _ h => h) (Or.inl ⟨by rfl, ?_⟩) ?_ ?_
 rotate_left
 {
 intro w'
 go_simp
 with_reducible rfl
 }
 rotate_left
 {
 simp only [Act.put, List.setIfInBounds_toArray, List.set_cons_zero, List.set_cons_succ, i64_w, i32_w]
 rfl
 }
 refine pure_ (i := 5) (N := some 39) (v := ?_) (a' := ?_) #[true, true, false, false, true, true, false, false, false, false, false, false, false, false, false, false, false, false, false, false, false, false, false, false, false, false, false, false, false, false, false, false, false, false, false, false, false, false, false, false, false, false] rfl rfl (any_of HT_.out (by kernel_rfl)) (fun _ _ _ h => h) (Or.inl ⟨by rfl, ?_⟩) ?_ ?_
 rotate_left
 {
 intro w'
 go_simp
 with_reducible rfl
 }
 rotate_left
 {
 simp only [Act.put, List.setIfInBounds_toArray, List.set_cons_zero, List.set_cons_succ, i64_w, i32_w]
 rfl
 }
 refine pure_ (i := 7) (N := some 41) (v := ?_) (a' := ?_) #[true, true, false, false, true, true, false, true, false, false, false, false, false, false, false, false, false, false, false, false, false, false, false, false, false, false, false, false, false, false, false, false, false, false, false, false, false, false, false, false, false, false] rfl rfl (any_of HT_.out (by kernel_rfl)) (fun _ _ _ h => h) (Or.inl ⟨by rfl, ?_⟩) ?_ ?_
 rotate_left
 {
 intro w'
 go_simp
 with_reducible rfl
 }
 rotate_left
 {
 simp only [Act.put, List.setIfInBounds_toArray, List.set_cons_zero, List.set_cons_succ, i64_w, i32_w]
 rfl
 }
 refine pure_ (i := 8) (N := some 42) (v := ?_) (a' := ?_) #[true, true, false, false, true, true, false, true, true, false, false, false, false, false, false, false, false, false, false, false, false, false, false, false, false, false, false, false, false, false, false, false, false, false, false, false, false, false, false, false, false, false] rfl rfl (any_of HT_.out (by kernel_rfl)) (fun _ _ _ h => h) (Or.inl ⟨by rfl, ?_⟩) ?_ ?_
 rotate_left
 {
 intro w'
 go_simp
 with_reducible rfl
 }
 rotate_left
 {
 simp only [Act.put, List.setIfInBounds_toArray, List.set_cons_zero, List.set_cons_succ, i64_w, i32_w]
 rfl
 }
 refine pure_ (i := 9) (N := some 43) (v := ?_) (a' := ?_) #[true, true, false, false, true, true, false, true, true, true, false, false, false, false, false, false, false, false, false, false, false, false, false, false, false, false, false, false, false, false, false, false, false, false, false, false, false, false, false, false, false, false] rfl rfl (any_of HT_.out (by kernel_rfl)) (fun _ _ _ h => h) (Or.inl ⟨by rfl, ?_⟩) ?_ ?_
 rotate_left
 {
 intro w'
 go_simp
 with_reducible rfl
 }
 rotate_left
 {
 simp only [Act.put, List.setIfInBounds_toArray, List.set_cons_zero, List.set_cons_succ, i64_w, i32_w]
 rfl
 }
 refine pure_ (i := 10) (N := some 44) (v := ?_) (a' := ?_) #[true, true, false, false, true, true, false, true, true, true, true, false, false, false, false, false, false, false, false, false, false, false, false, false, false, false, false, false, false, false, false, false, false, false, false, false, false, false, false, false, false, false] rfl rfl (any_of HT_.out (by kernel_rfl)) (fun _ _ _ h => h) (Or.inl ⟨by rfl, ?_⟩) ?_ ?_
 rotate_left
 {
 intro w'
 go_simp
 with_reducible rfl
 }
 rotate_left
 {
 simp only [Act.put, List.setIfInBounds_toArray, List.set_cons_zero, List.set_cons_succ, i64_w, i32_w]
 rfl
 }
 refine pure_ (i := 11) (N := some 45) (v := ?_) (a' := ?_) #[true, true, false, false, true, true, false, true, true, true, true, true, false, false, false, false, false, false, false, false, false, false, false, false, false, false, false, false, false, false, false, false, false, false, false, false, false, false, false, false, false, false] rfl rfl (any_of HT_.out (by kernel_rfl)) (fun _ _ _ h => h) (Or.inl ⟨by rfl, ?_⟩) ?_ ?_
 rotate_left
 {
 intro w'
 go_simp
 with_reducible rfl
 }
 rotate_left
 {
 simp only [Act.put, List.setIfInBounds_toArray, List.set_cons_zero, List.set_cons_succ, i64_w, i32_w]
 rfl
 }
 refine pure_ (i := 12) (N := some 46) (v := ?_) (a' := ?_) #[true, true, false, false, true, true, false, true, true, true, true, true, true, false, false, false, false, false, false, false, false, false, false, false, false, false, false, false, false, false, false, false, false, false, false, false, false, false, false, false, false, false] rfl rfl (any_of HT_.out (by kernel_rfl)) (fun _ _ _ h => h) (Or.inl ⟨by rfl, ?_⟩) ?_ ?_
 rotate_left
 {
 intro w'
 go_simp
 with_reducible rfl
 }
 rotate_left
 {
 simp only [Act.put, List.setIfInBounds_toArray, List.set_cons_zero, List.set_cons_succ, i64_w, i32_w]
 rfl
 }
 refine pure_ (i := 13) (N := some 47) (v := ?_) (a' := ?_) #[true, true, false, false, true, true, false, true, true, true, true, true, true, true, false, false, false, false, false, false, false, false, false, false, false, false, false, false, false, false, false, false, false, false, false, false, false, false, false, false, false, false] rfl rfl (any_of HT_.out (by kernel_rfl)) (fun _ _ _ h => h) (Or.inl ⟨by rfl, ?_⟩) ?_ ?_
 rotate_left
 {
 intro w'
 go_simp
 with_reducible rfl
 }
 rotate_left
 {
 simp only [Act.put, List.setIfInBounds_toArray, List.set_cons_zero, List.set_cons_succ, i64_w, i32_w]
 rfl
 }
 refine pure_ (i := 14) (N := some 48) (v := ?_) (a' := ?_) #[true, true, false, false, true, true, false, true, true, true, true, true, true, true, true, false, false, false, false, false, false, false, false, false, false, false, false, false, false, false, false, false, false, false, false, false, false, false, false, false, false, false] rfl rfl (any_of HT_.out (by kernel_rfl)) (fun _ _ _ h => h) (Or.inl ⟨by rfl, ?_⟩) ?_ ?_
 rotate_left
 {
 intro w'
 go_simp
 with_reducible rfl
 }
 rotate_left
 {
 simp only [Act.put, List.setIfInBounds_toArray, List.set_cons_zero, List.set_cons_succ, i64_w, i32_w]
 rfl
 }
 refine pure_ (i := 15) (N := some 49) (v := ?_) (a' := ?_) #[true, true, false, false, true, true, false, true, true, true, true, true, true, true, true, true, false, false, false, false, false, false, false, false, false, false, false, false, false, false, false, false, false, false, false, false, false, false, false, false, false, false] rfl rfl (any_of HT_.out (by kernel_rfl)) (fun _ _ _ h => h) (Or.inl ⟨by rfl, ?_⟩) ?_ ?_
 rotate_left
 {
 intro w'
 go_simp
 with_reducible rfl
 }
 rotate_left
 {
 simp only [Act.put, List.setIfInBounds_toArray, List.set_cons_zero, List.set_cons_succ, i64_w, i32_w]
 rfl
 }
 refine pure_ (i := 16) (N := some 50) (v := ?_) (a' := ?_) #[true, true, false, false, true, true, false, true, true, true, true, true, true, true, true, true, true, false, false, false, false, false, false, false, false, false, false, false, false, false, false, false, false, false, false, false, false, false, false, false, false, false] rfl rfl (any_of HT_.out (by kernel_rfl)) (fun _ _ _ h => h) (Or.inl ⟨by rfl, ?_⟩) ?_ ?_
 rotate_left
 {
 intro w'
 go_simp
 with_reducible rfl
 }
 rotate_left
 {
 simp only [Act.put, List.setIfInBounds_toArray, List.set_cons_zero, List.set_cons_succ, i64_w, i32_w]
 rfl
 }
 refine pure_ (i := 17) (N := some 51) (v := ?_) (a' := ?_) #[true, true, false, false, true, true, false, true, true, true, true, true, true, true, true, true, true, true, false, false, false, false, false, false, false, false, false, false, false, false, false, false, false, false, false, false, false, false, false, false, false, false] rfl rfl (any_of HT_.out (by kernel_rfl)) (fun _ _ _ h => h) (Or.inl ⟨by rfl, ?_⟩) ?_ ?_
 rotate_left
 {
 intro w'
 go_simp
 with_reducible rfl
 }
 rotate_left
 {
 simp only [Act.put, List.setIfInBounds_toArray, List.set_cons_zero, List.set_cons_succ, i64_w, i32_w]
 rfl
 }
 refine pure_ (i := 20) (N := some 54) (v := ?_) (a' := ?_) #[true, true, false, false, true, true, false, true, true, true, true, true, true, true, true, true, true, true, false, false, true, false, false, false, false, false, false, false, false, false, false, false, false, false, false, false, false, false, false, false, false, false] rfl rfl (any_of HT_.out (by kernel_rfl)) (fun _ _ _ h => h) (Or.inl ⟨by rfl, ?_⟩) ?_ ?_
 rotate_left
 {
 intro w'
 go_simp
 with_reducible rfl
 }
 rotate_left
 {
 simp only [Act.put, List.setIfInBounds_toArray, List.set_cons_zero, List.set_cons_succ, i64_w, i32_w]
 rfl
 }
 refine pure_ (i := 21) (N := some 55) (v := ?_) (a' := ?_) #[true, true, false, false, true, true, false, true, true, true, true, true, true, true, true, true, true, true, false, false, true, true, false, false, false, false, false, false, false, false, false, false, false, false, false, false, false, false, false, false, false, false] rfl rfl (any_of HT_.out (by kernel_rfl)) (fun _ _ _ h => h) (Or.inl ⟨by rfl, ?_⟩) ?_ ?_
 rotate_left
 {
 intro w'
 go_simp
 with_reducible rfl
 }
 rotate_left
 {
 simp only [Act.put, List.setIfInBounds_toArray, List.set_cons_zero, List.set_cons_succ, i64_w, i32_w]
 rfl
 }
 refine pure_ (i := 24) (N := some 58) (v := ?_) (a' := ?_) #[true, true, false, false, true, true, false, true, true, true, true, true, true, true, true, true, true, true, false, false, true, true, false, false, true, false, false, false, false, false, false, false, false, false, false, false, false, false, false, false, false, false] rfl rfl (any_of HT_.out (by kernel_rfl)) (fun _ _ _ h => h) (Or.inl ⟨by rfl, ?_⟩) ?_ ?_
 rotate_left
 {
 intro w'
 go_simp
 with_reducible rfl
 }
 rotate_left
 {
 simp only [Act.put, List.setIfInBounds_toArray, List.set_cons_zero, List.set_cons_succ, i64_w, i32_w]
 rfl
 }
 refine pure_ (i := 25) (N := some 59) (v := ?_) (a' := ?_) #[true, true, false, false, true, true, false, true, true, true, true, true, true, true, true, true, true, true, false, false, true, true, false, false, true, true, false, false, false, false, false, false, false, false, false, false, false, false, false, false, false, false] rfl rfl (any_of HT_.out (by kernel_rfl)) (fun _ _ _ h => h) (Or.inl ⟨by rfl, ?_⟩) ?_ ?_
 rotate_left
 {
 intro w'
 go_simp
 with_reducible rfl
 }
 rotate_left
 {
 simp only [Act.put, List.setIfInBounds_toArray, List.set_cons_zero, List.set_cons_succ, i64_w, i32_w]
 rfl
 }
 refine pure_ (i := 27) (N := some 61) (v := ?_) (a' := ?_) #[true, true, false, false, true, true, false, true, true, true, true, true, true, true, true, true, true, true, false, false, true, true, false, false, true, true, false, true, false, false, false, false, false, false, false, false, false, false, false, false, false, false] rfl rfl (any_of HT_.out (by kernel_rfl)) (fun _ _ _ h => h) (Or.inl ⟨by rfl, ?_⟩) ?_ ?_
 rotate_left
 {
 intro w'
 go_simp
 with_reducible rfl
 }
 rotate_left
 {
 simp only [Act.put, List.setIfInBounds_toArray, List.set_cons_zero, List.set_cons_succ, i64_w, i32_w]
 rfl
 }
 refine pure_ (i := 28) (N := some 62) (v := ?_) (a' := ?_) #[true, true, false, false, true, true, false, true, true, true, true, true, true, true, true, true, true, true, false, false, true, true, false, false, true, true, false, true, true, false, false, false, false, false, false, false, false, false, false, false, false, false] rfl rfl (any_of HT_.out (by kernel_rfl)) (fun _ _ _ h => h) (Or.inl ⟨by rfl, ?_⟩) ?_ ?_
 rotate_left
 {
 intro w'
 go_simp
 with_reducible rfl
 }
 rotate_left
 {
 simp only [Act.put, List.setIfInBounds_toArray, List.set_cons_zero, List.set_cons_succ, i64_w, i32_w]
 rfl
 }
 refine pure_ (i := 30) (N := some 64) (v := ?_) (a' := ?_) #[true, true, false, false, true, true, false, true, true, true, true, true, true, true, true, true, true, true, false, false, true, true, false, false, true, true, false, true, true, false, true, false, false, false, false, false, false, false, false, false, false, false] rfl rfl (any_of HT_.out (by kernel_rfl)) (fun _ _ _ h => h) (Or.inl ⟨by rfl, ?_⟩) ?_ ?_
 rotate_left
 {
 intro w'
 go_simp
 with_reducible rfl
 }
 rotate_left
 {
 simp only [Act.put, List.setIfInBounds_toArray, List.set_cons_zero, List.set_cons_succ, i64_w, i32_w]
 rfl
 }
 refine pure_ (i := 31) (N := some 65) (v := ?_) (a' := ?_) #[true, true, false, false, true, true, false, true, true, true, true, true, true, true, true, true, true, true, false, false, true, true, false, false, true, true, false, true, true, false, true, true, false, false, false, false, false, false, false, false, false, false] rfl rfl (any_of HT_.out (by kernel_rfl)) (fun _ _ _ h => h) (Or.inl ⟨by rfl, ?_⟩) ?_ ?_
 rotate_left
 {
 intro w'
 go_simp
 with_reducible rfl
 }
 rotate_left
 {
 simp only [Act.put, List.setIfInBounds_toArray, List.set_cons_zero, List.set_cons_succ, i64_w, i32_w]
 rfl
 }
 refine pure_ (i := 32) (N := some 66) (v := ?_) (a' := ?_) #[true, true, false, false, true, true, false, true, true, true, true, true, true, true, true, true, true, true, false, false, true, true, false, false, true, true, false, true, true, false, true, true, true, false, false, false, false, false, false, false, false, false] rfl rfl (any_of HT_.out (by kernel_rfl)) (fun _ _ _ h => h) (Or.inl ⟨by rfl, ?_⟩) ?_ ?_
 rotate_left
 {
 intro w'
 go_simp
 with_reducible rfl
 }
 rotate_left
 {
 simp only [Act.put, List.setIfInBounds_toArray, List.set_cons_zero, List.set_cons_succ, i64_w, i32_w]
 rfl
 }
 refine pure_ (i := 34) (N := some 68) (v := ?_) (a' := ?_) #[true, true, false, false, true, true, false, true, true, true, true, true, true, true, true, true, true, true, false, false, true, true, false, false, true, true, false, true, true, false, true, true, true, false, true, false, false, false, false, false, false, false] rfl rfl (any_of HT_.out (by kernel_rfl)) (fun _ _ _ h => h) (Or.inl ⟨by rfl, ?_⟩) ?_ ?_
 rotate_left
 {
 intro w'
 go_simp
 with_reducible rfl
 }
 rotate_left
 {
 simp only [Act.put, List.setIfInBounds_toArray, List.set_cons_zero, List.set_cons_succ, i64_w, i32_w]
 rfl
 }
 refine pure_ (i := 35) (N := some 69) (v := ?_) (a' := ?_) #[true, true, false, false, true, true, false, true, true, true, true, true, true, true, true, true, true, true, false, false, true, true, false, false, true, true, false, true, true, false, true, true, true, false, true, true, false, false, false, false, false, false] rfl rfl (any_of HT_.out (by kernel_rfl)) (fun _ _ _ h => h) (Or.inl ⟨by rfl, ?_⟩) ?_ ?_
 rotate_left
 {
 intro w'
 go_simp
 with_reducible rfl
 }
 rotate_left
 {
 simp only [Act.put, List.setIfInBounds_toArray, List.set_cons_zero, List.set_cons_succ, i64_w, i32_w]
 rfl
 }
 refine pure_ (i := 36) (N := some 70) (v := ?_) (a' := ?_) #[true, true, false, false, true, true, false, true, true, true, true, true, true, true, true, true, true, true, false, false, true, true, false, false, true, true, false, true, true, false, true, true, true, false, true, true, true, false, false, false, false, false] rfl rfl (any_of HT_.out (by kernel_rfl)) (fun _ _ _ h => h) (Or.inl ⟨by rfl, ?_⟩) ?_ ?_
 rotate_left
 {
 intro w'
 go_simp
 with_reducible rfl
 }
 rotate_left
 {
 simp only [Act.put, List.setIfInBounds_toArray, List.set_cons_zero, List.set_cons_succ, i64_w, i32_w]
 rfl
 }
 refine pure_ (i := 37) (N := some 71) (v := ?_) (a' := ?_) #[true, true, false, false, true, true, false, true, true, true, true, true, true, true, true, true, true, true, false, false, true, true, false, false, true, true, false, true, true, false, true, true, true, false, true, true, true, true, false, false, false, false] rfl rfl (any_of HT_.out (by kernel_rfl)) (fun _ _ _ h => h) (Or.inl ⟨by rfl, ?_⟩) ?_ ?_
 rotate_left
 {
 intro w'
 go_simp
 with_reducible rfl
 }
 rotate_left
 {
 simp only [Act.put, List.setIfInBounds_toArray, List.set_cons_zero, List.set_cons_succ, i64_w, i32_w]
 rfl
 }
 refine take_ (i := 2) (N := some 36) (v := ?_) (a' := ?_) #[true, true, true, false, true, true, false, true, true, true, true, true, true, true, true, true, true, true, false, false, true, true, false, false, true, true, false, true, true, false, true, true, true, false, true, true, true, true, false, false, false, false] rfl rfl (take_ofW HT_.out HW_.out (by kernel_rfl)) (fun _ _ _ h => h) (Or.inl ⟨by rfl, ?_⟩) hHeld ?_ ?_
 rotate_left
 {
 rintro w' ⟨s0, s1, s2⟩
 go_simp
 with_reducible rfl
 }
 rotate_left
 {
 simp only [Act.put, List.setIfInBounds_toArray, List.set_cons_zero, List.set_cons_succ, i64_w, i32_w]
 rfl
 }
 refine pure_ (i := 3) (N := some 37) (v := ?_) (a' := ?_) #[true, true, true, true, true, true, false, true, true, true, true, true, true, true, true, true, true, true, false, false, true, true, false, false, true, true, false, true, true, false, true, true, true, false, true, true, true, true, false, false, false, false] rfl rfl (any_of HT_.out (by kernel_rfl)) (fun _ _ _ h => h) (Or.inl ⟨by rfl, ?_⟩) ?_ ?_
 rotate_left
 {
 intro w'
 go_simp
 with_reducible rfl
 }
 rotate_left
 {
 simp only [Act.put, List.setIfInBounds_toArray, List.set_cons_zero, List.set_cons_succ, i64_w, i32_w]
 rfl
 }
 refine take_ (i := 18) (N := some 52) (v := ?_) (a' := ?_) #[true, true, true, true, true, true, false, true, true, true, true, true, true, true, true, true, true, true, true, false, true, true, false, false, true, true, false, true, true, false, true, true, true, false, true, true, true, true, false, false, false, false] rfl rfl (take_ofW HT_.out HW_.out (by kernel_rfl)) (fun _ _ _ h => h) (Or.inl ⟨by rfl, ?_⟩) hHeld ?_ ?_
 rotate_left
 {
 rintro w' ⟨s0, s1, s2⟩
 go_simp
 with_reducible rfl
 }
 rotate_left
 {
 simp only [Act.put, List.setIfInBounds_toArray, List.set_cons_zero, List.set_cons_succ, i64_w, i32_w]
 rfl
 }
 refine pure_ (i := 19) (N := some 53) (v := ?_) (a' := ?_) #[true, true, true, true, true, true, false, true, true, true, true, true, true, true, true, true, true, true, true, true, true, true, false, false, true, true, false, true, true, false, true, true, true, false, true, true, true, true, false, false, false, false] rfl rfl (any_of HT_.out (by kernel_rfl)) (fun _ _ _ h => h) (Or.inl ⟨by rfl, ?_⟩) ?_ ?_
 rotate_left
 {
 intro w'
 go_simp
 with_reducible rfl
 }
 rotate_left
 {
 simp only [Act.put, List.setIfInBounds_toArray, List.set_cons_zero, List.set_cons_succ, i64_w, i32_w]
 rfl
 }
 refine take_ (i := 22) (N := some 56) (v := ?_) (a' := ?_) #[true, true, true, true, true, true, false, true, true, true, true, true, true, true, true, true, true, true, true, true, true, true, true, false, true, true, false, true, true, false, true, true, true, false, true, true, true, true, false, false, false, false] rfl rfl (take_ofW HT_.out HW_.out (by kernel_rfl)) (fun _ _ _ h => h) (Or.inl ⟨by rfl, ?_⟩) hHeld ?_ ?_
 rotate_left
 {
 rintro w' ⟨s0, s1, s2⟩
 go_simp
 with_reducible rfl
 }
 rotate_left
 {
 simp only [Act.put, List.setIfInBounds_toArray, List.set_cons_zero, List.set_cons_succ, i64_w, i32_w]
 rfl
 }
 refine pure_ (i := 23) (N := some 57) (v := ?_) (a' := ?_) #[true, true, true, true, true, true, false, true, true, true, true, true, true, true, true, true, true, true, true, true, true, true, true, true, true, true, false, true, true, false, true, true, true, false, true, true, true, true, false, false, false, false] rfl rfl (any_of HT_.out (by kernel_rfl)) (fun _ _ _ h => h) (Or.inl ⟨by rfl, ?_⟩) ?_ ?_
 rotate_left
 {
 intro w'
 go_simp
 with_reducible rfl
 }
 rotate_left
 {
 simp only [Act.put, List.setIfInBounds_toArray, List.set_cons_zero, List.set_cons_succ, i64_w, i32_w]
 rfl
 }
 refine join_ (σ := Value × Value × Nat) 1 #[true, true, true, true, true, true, true, true, true, true, true, true, true, true, true, true, true, true, true, true, true, true, true, true, true, true, true, true, true, true, true, true, true, true, true, true, true, true, true, true, true, false] (fun s_ => [(40, .int .i64 t132), (60, .int .i64 t136), (63, .int .i64 t138), (67, s_.1), (72, s_.2.1), (8, .pointer (some ⟨s_.2.2, 0, none⟩)), (73, .agg #[.int .i64 (wrap64 (rd l0 1)), .int .i64 t132, .bool ((Go.bits .and .i64 t129 16384) != 0), .bool ((Go.bits .and .i64 t129 8192) != 0), .int .i64 (wrap64 ((Int.tmod t129 8192) * 8)), .int .i64 (wrap64 (rd l0 8)), .int .i64 (wrap64 (rd l0 9)), .int .i64 t136, .int .i64 t138, s_.1, s_.2.1])]) (fun s_ w' => (w'.cell? ⟨ad130.block, ad130.off + 1, none⟩ = some (.int .u8 (rd l0 1)) ∧ w'.cell? ⟨ad130.block, ad130.off + 8, none⟩ = some (.int .u8 (rd l0 8)) ∧ w'.cell? ⟨ad130.block, ad130.off + 9, none⟩ = some (.int .u8 (rd l0 9))) ∧ (Kd.R (Kd.int .u8) 5 w' w.heap.size (fun k_ => some k_ ≠ (s_.2.1 : Value).ownBlock) s_.1 t140) ∧ (Kd.R (Kd.int .u8) 5 w' w.heap.size (fun k_ => some k_ ≠ (s_.1 : Value).ownBlock) s_.2.1 t144) ∧ (w'.heap[gb123]? = some (.cells #[.int .i64 0, .int .i64 0, .bool false, .bool false, .int .i64 0, .int .i64 0, .int .i64 0, .int .i64 0, .int .i64 0, .slice none 0 0, .slice none 0 0] 51 (0, 0))) ∧ (w'.heap[s_.2.2]? = some (.cells #[.int .i64 0, .int .i64 0, .bool false, .bool false, .int .i64 0, .int .i64 0, .int .i64 0, .int .i64 0, .int .i64 0, .slice none 0 0, .slice none 0 0] 51 (0, 0))) ∧ (w.heap.size ≤ s_.2.2) ∧ (w.heap.size ≤ s_.2.2) ∧ (gb123 ≠ s_.2.2) ∧ (s_.2.2 ≠ gb123) ∧ (Below w.heap.size w w')) ?_ ?_
 rotate_left
 {
 intro hJ6_26_29_33_38_40
 refine join_ (σ := Value × Value) 2 #[true, true, true, true, true, true, true, true, true, true, true, true, true, true, true, true, true, true, true, true, true, true, true, true, true, true, true, true, true, true, true, true, true, true, true, true, true, true, true, true, false, false] (fun s_ => [(40, .int .i64 t132), (60, .int .i64 t136), (63, .int .i64 t138), (67, s_.1), (72, s_.2), (73, .agg #[.int .i64 (wrap64 (rd l0 1)), .int .i64 t132, .bool ((Go.bits .and .i64 t129 16384) != 0), .bool ((Go.bits .and .i64 t129 8192) != 0), .int .i64 (wrap64 ((Int.tmod t129 8192) * 8)), .int .i64 (wrap64 (rd l0 8)), .int .i64 (wrap64 (rd l0 9)), .int .i64 t136, .int .i64 t138, s_.1, s_.2])]) (fun s_ w' => (w'.cell? ⟨ad130.block, ad130.off + 1, none⟩ = some (.int .u8 (rd l0 1)) ∧ w'.cell? ⟨ad130.block, ad130.off + 8, none⟩ = some (.int .u8 (rd l0 8)) ∧ w'.cell? ⟨ad130.block, ad130.off + 9, none⟩ = some (.int .u8 (rd l0 9))) ∧ (Kd.R (Kd.int .u8) 5 w' w.heap.size (fun k_ => some k_ ≠ (s_.2 : Value).ownBlock) s_.1 t140) ∧ (Kd.R (Kd.int .u8) 5 w' w.heap.size (fun k_ => some k_ ≠ (s_.1 : Value).ownBlock) s_.2 t144) ∧ (w'.heap[gb123]? = some (.cells #[.int .i64 0, .int .i64 0, .bool false, .bool false, .int .i64 0, .int .i64 0, .int .i64 0, .int .i64 0, .int .i64 0, .slice none 0 0, .slice none 0 0] 51 (0, 0))) ∧ (Below w.heap.size w w')) ?_ ?_
 rotate_left
 {
 intro hJ6_26_29_33_38
 refine join_ (σ := Value × Nat) 3 #[true, true, true, true, true, true, true, true, true, true, true, true, true, true, true, true, true, true, true, true, true, true, true, true, true, true, true, true, true, true, true, true, true, true, true, true, true, true, false, false, true, false] (fun s_ => [(40, .int .i64 t132), (60, .int .i64 t136), (63, .int .i64 t138), (67, s_.1), (8, .pointer (some ⟨s_.2, 0, none⟩))]) (fun s_ w' => (w'.cell? ⟨ad130.block, ad130.off + 1, none⟩ = some (.int .u8 (rd l0 1)) ∧ w'.cell? ⟨ad130.block, ad130.off + 8, none⟩ = some (.int .u8 (rd l0 8)) ∧ w'.cell? ⟨ad130.block, ad130.off + 9, none⟩ = some (.int .u8 (rd l0 9))) ∧ (Kd.R (Kd.int .u8) 5 w' w.heap.size (fun _ => True) s_.1 t140) ∧ (w'.heap[gb123]? = some (.cells #[.int .i64 0, .int .i64 0, .bool false, .bool false, .int .i64 0, .int .i64 0, .int .i64 0, .int .i64 0, .int .i64 0, .slice none 0 0, .slice none 0 0] 51 (0, 0))) ∧ (w'.heap[s_.2]? = some (.cells #[.int .i64 0, .int .i64 0, .bool false, .bool false, .int .i64 0, .int .i64 0, .int .i64 0, .int .i64 0, .int .i64 0, .slice none 0 0, .slice none 0 0] 51 (0, 0))) ∧ (w.heap.size ≤ s_.2) ∧ (w.heap.size ≤ s_.2) ∧ (gb123 ≠ s_.2) ∧ (s_.2 ≠ gb123) ∧ (Below w.heap.size w w')) ?_ ?_
 rotate_left
 {
 intro hJ6_26_29_33_40
 refine join_ (σ := Value) 4 #[true, true, true, true, true, true, true, true, true, true, true, true, true, true, true, true, true, true, true, true, true, true, true, true, true, true, true, true, true, true, true, true, true, true, true, true, true, true, false, false, false, false] (fun s_ => [(40, .int .i64 t132), (60, .int .i64 t136), (63, .int .i64 t138), (67, s_)]) (fun s_ w' => (w'.cell? ⟨ad130.block, ad130.off + 1, none⟩ = some (.int .u8 (rd l0 1)) ∧ w'.cell? ⟨ad130.block, ad130.off + 8, none⟩ = some (.int .u8 (rd l0 8)) ∧ w'.cell? ⟨ad130.block, ad130.off + 9, none⟩ = some (.int .u8 (rd l0 9))) ∧ (Kd.R (Kd.int .u8) 5 w' w.heap.size (fun _ => True) s_ t140) ∧ (w'.heap[gb123]? = some (.cells #[.int .i64 0, .int .i64 0, .bool false, .bool false, .int .i64 0, .int .i64 0, .int .i64 0, .int .i64 0, .int .i64 0, .slice none 0 0, .slice none 0 0] 51 (0, 0))) ∧ (Below w.heap.size w w')) ?_ ?_
 rotate_left
 {
 intro hJ6_26_29_33
 refine join_ (σ := Nat) 4 #[true, true, true, true, true, true, true, true, true, true, true, true, true, true, true, true, true, true, true, true, true, true, true, true, true, true, true, true, true, true, true, true, true, false, true, true, true, true, false, false, true, false] (fun s_ => [(40, .int .i64 t132), (60, .int .i64 t136), (63, .int .i64 t138), (8, .pointer (some ⟨s_, 0, none⟩))]) (fun s_ w' => (w'.cell? ⟨ad130.block, ad130.off + 1, none⟩ = some (.int .u8 (rd l0 1)) ∧ w'.cell? ⟨ad130.block, ad130.off + 8, none⟩ = some (.int .u8 (rd l0 8)) ∧ w'.cell? ⟨ad130.block, ad130.off + 9, none⟩ = some (.int .u8 (rd l0 9))) ∧ (w'.heap[gb123]? = some (.cells #[.int .i64 0, .int .i64 0, .bool false, .bool false, .int .i64 0, .int .i64 0, .int .i64 0, .int .i64 0, .int .i64 0, .slice none 0 0, .slice none 0 0] 51 (0, 0))) ∧ (w'.heap[s_]? = some (.cells #[.int .i64 0, .int .i64 0, .bool false, .bool false, .int .i64 0, .int .i64 0, .int .i64 0, .int .i64 0, .int .i64 0, .slice none 0 0, .slice none 0 0] 51 (0, 0))) ∧ (w.heap.size ≤ s_) ∧ (w.heap.size ≤ s_) ∧ (gb123 ≠ s_) ∧ (s_ ≠ gb123) ∧ (Below w.heap.size w w')) ?_ ?_
 rotate_left
 {
 intro hJ6_26_29_40
 refine join_ (σ := Unit) 5 #[true, true, true, true, true, true, true, true, true, true, true, true, true, true, true, true, true, true, true, true, true, true, true, true, true, true, true, true, true, true, true, true, true, false, true, true, true, true, false, false, false, false] (fun s_ => [(40, .int .i64 t132), (60, .int .i64 t136), (63, .int .i64 t138)]) (fun s_ w' => (w'.cell? ⟨ad130.block, ad130.off + 1, none⟩ = some (.int .u8 (rd l0 1)) ∧ w'.cell? ⟨ad130.block, ad130.off + 8, none⟩ = some (.int .u8 (rd l0 8)) ∧ w'.cell? ⟨ad130.block, ad130.off + 9, none⟩ = some (.int .u8 (rd l0 9))) ∧ (w'.heap[gb123]? = some (.cells #[.int .i64 0, .int .i64 0, .bool false, .bool false, .int .i64 0, .int .i64 0, .int .i64 0, .int .i64 0, .int .i64 0, .slice none 0 0, .slice none 0 0] 51 (0, 0))) ∧ (Below w.heap.size w w')) ?_ ?_
 rotate_left
 {
 intro hJ6_26_29
 refine join_ (σ := Nat) 5 #[true, true, true, true, true, true, true, true, true, true, true, true, true, true, true, true, true, true, true, true, true, true, true, true, true, true, true, true, true, false, true, true, true, false, true, true, true, true, false, false, true, false] (fun s_ => [(40, .int .i64 t132), (60, .int .i64 t136), (8, .pointer (some ⟨s_, 0, none⟩))]) (fun s_ w' => (w'.cell? ⟨ad130.block, ad130.off + 1, none⟩ = some (.int .u8 (rd l0 1)) ∧ w'.cell? ⟨ad130.block, ad130.off + 8, none⟩ = some (.int .u8 (rd l0 8)) ∧ w'.cell? ⟨ad130.block, ad130.off + 9, none⟩ = some (.int .u8 (rd l0 9))) ∧ (w'.heap[gb123]? = some (.cells #[.int .i64 0, .int .i64 0, .bool false, .bool false, .int .i64 0, .int .i64 0, .int .i64 0, .int .i64 0, .int .i64 0, .slice none 0 0, .slice none 0 0] 51 (0, 0))) ∧ (w'.heap[s_]? = some (.cells #[.int .i64 0, .int .i64 0, .bool false, .bool false, .int .i64 0, .int .i64 0, .int .i64 0, .int .i64 0, .int .i64 0, .slice none 0 0, .slice none 0 0] 51 (0, 0))) ∧ (w.heap.size ≤ s_) ∧ (w.heap.size ≤ s_) ∧ (gb123 ≠ s_) ∧ (s_ ≠ gb123) ∧ (Below w.heap.size w w')) ?_ ?_
 rotate_left
 {
 intro hJ6_26_40
 refine join_ (σ := Unit) 6 #[true, true, true, true, true, true, true, true, true, true, true, true, true, true, true, true, true, true, true, true, true, true, true, true, true, true, true, true, true, false, true, true, true, false, true, true, true, true, false, false, false, false] (fun s_ => [(40, .int .i64 t132), (60, .int .i64 t136)]) (fun s_ w' => (w'.cell? ⟨ad130.block, ad130.off + 1, none⟩ = some (.int .u8 (rd l0 1)) ∧ w'.cell? ⟨ad130.block, ad130.off + 8, none⟩ = some (.int .u8 (rd l0 8)) ∧ w'.cell? ⟨ad130.block, ad130.off + 9, none⟩ = some (.int .u8 (rd l0 9))) ∧ (w'.heap[gb123]? = some (.cells #[.int .i64 0, .int .i64 0, .bool false, .bool false, .int .i64 0, .int .i64 0, .int .i64 0, .int .i64 0, .int .i64 0, .slice none 0 0, .slice none 0 0] 51 (0, 0))) ∧ (Below w.heap.size w w')) ?_ ?_
 rotate_left
 {
 intro hJ6_26
 refine join_ (σ := Nat) 6 #[true, true, true, true, true, true, true, true, true, true, true, true, true, true, true, true, true, true, true, true, true, true, true, true, true, true, false, true, true, false, true, true, true, false, true, true, true, true, false, false, true, false] (fun s_ => [(40, .int .i64 t132), (8, .pointer (some ⟨s_, 0, none⟩))]) (fun s_ w' => (w'.cell? ⟨ad130.block, ad130.off + 1, none⟩ = some (.int .u8 (rd l0 1)) ∧ w'.cell? ⟨ad130.block, ad130.off + 8, none⟩ = some (.int .u8 (rd l0 8)) ∧ w'.cell? ⟨ad130.block, ad130.off + 9, none⟩ = some (.int .u8 (rd l0 9))) ∧ (w'.heap[gb123]? = some (.cells #[.int .i64 0, .int .i64 0, .bool false, .bool false, .int .i64 0, .int .i64 0, .int .i64 0, .int .i64 0, .int .i64 0, .slice none 0 0, .slice none 0 0] 51 (0, 0))) ∧ (w'.heap[s_]? = some (.cells #[.int .i64 0, .int .i64 0, .bool false, .bool false, .int .i64 0, .int .i64 0, .int .i64 0, .int .i64 0, .int .i64 0, .slice none 0 0, .slice none 0 0] 51 (0, 0))) ∧ (w.heap.size ≤ s_) ∧ (w.heap.size ≤ s_) ∧ (gb123 ≠ s_) ∧ (s_ ≠ gb123) ∧ (Below w.heap.size w w')) ?_ ?_
 rotate_left
 {
 intro hJ6_40
 refine join_ (σ := Unit) 7 #[true, true, true, true, true, true, true, true, true, true, true, true, true, true, true, true, true, true, true, true, true, true, true, true, true, true, false, true, true, false, true, true, true, false, true, true, true, true, false, false, false, false] (fun s_ => [(40, .int .i64 t132)]) (fun s_ w' => (w'.cell? ⟨ad130.block, ad130.off + 1, none⟩ = some (.int .u8 (rd l0 1)) ∧ w'.cell? ⟨ad130.block, ad130.off + 8, none⟩ = some (.int .u8 (rd l0 8)) ∧ w'.cell? ⟨ad130.block, ad130.off + 9, none⟩ = some (.int .u8 (rd l0 9))) ∧ (w'.heap[gb123]? = some (.cells #[.int .i64 0, .int .i64 0, .bool false, .bool false, .int .i64 0, .int .i64 0, .int .i64 0, .int .i64 0, .int .i64 0, .slice none 0 0, .slice none 0 0] 51 (0, 0))) ∧ (Below w.heap.size w w')) ?_ ?_
 rotate_left
 {
 intro hJ6
 refine join_ (σ := Nat) 7 #[true, true, true, true, true, true, false, true, true, true, true, true, true, true, true, true, true, true, true, true, true, true, true, true, true, true, false, true, true, false, true, true, true, false, true, true, true, true, false, false, true, false] (fun s_ => [(8, .pointer (some ⟨s_, 0, none⟩))]) (fun s_ w' => (w'.cell? ⟨ad130.block, ad130.off + 1, none⟩ = some (.int .u8 (rd l0 1)) ∧ w'.cell? ⟨ad130.block, ad130.off + 8, none⟩ = some (.int .u8 (rd l0 8)) ∧ w'.cell? ⟨ad130.block, ad130.off + 9, none⟩ = some (.int .u8 (rd l0 9))) ∧ (w'.heap[gb123]? = some (.cells #[.int .i64 0, .int .i64 0, .bool false, .bool false, .int .i64 0, .int .i64 0, .int .i64 0, .int .i64 0, .int .i64 0, .slice none 0 0, .slice none 0 0] 51 (0, 0))) ∧ (w'.heap[s_]? = some (.cells #[.int .i64 0, .int .i64 0, .bool false, .bool false, .int .i64 0, .int .i64 0, .int .i64 0, .int .i64 0, .int .i64 0, .slice none 0 0, .slice none 0 0] 51 (0, 0))) ∧ (w.heap.size ≤ s_) ∧ (w.heap.size ≤ s_) ∧ (gb123 ≠ s_) ∧ (s_ ≠ gb123) ∧ (Below w.heap.size w w')) ?_ ?_
 rotate_left
 {
 intro hJ40
 refine two_ (i := 6) (j := 40) (Ni := some 40) (Nj := some 8) #[true, true, true, true, true, true, true, true, true, true, true, true, true, true, true, true, true, true, true, true, true, true, true, true, true, true, false, true, true, false, true, true, true, false, true, true, true, true, false, false, false, false] #[true, true, true, true, true, true, false, true, true, true, true, true, true, true, true, true, true, true, true, true, true, true, true, true, true, true, false, true, true, false, true, true, true, false, true, true, true, true, false, false, true, false] rfl rfl rfl rfl (two_of HT_.out (by kernel_rfl)) (by decide) (by decide) (fun K hK => ?_) (fun K hK => ?_)
 {
 skip
 refine goes_ Try.func70 (by kernel_rfl) rfl #[.slice A2003 ((l0.take 6).drop 4).length (c0 - 4)] (by rfl) rfl rfl (by (try simp only [List.map_toArray, List.map_cons, List.map_nil]); first | done | (rw [show ((l0.take 6).drop 4).length = (6 - 4) from (by rw [List.length_drop, List.length_take]; have h_ : (6 : Int) ≤ (l0.length : Int) := of_decide_eq_true (by first | (with_reducible assumption) | assumption); omega)] <;> rfl) | rfl | (simp only [List.length_drop, List.length_take]; rfl)) ?_
 with_reducible refine (spec_l03Num.calls kj6 _ _ ((l0.take 6).drop 4) t132 _ ?side1 ?side2 A1011.out).mono ?_
 (case side1 => exact Kd.C_below HR131.out wB)
 (case side2 => exact HC131.out)
 rintro e w' ⟨rfl, ⟨nd, rfl⟩⟩
 refine ⟨_, rfl, ?_⟩
 refine hK.out _ _ ⟨((HB.out.cell (World.block_lt_of_cell? w _ hw130_0)).trans hw130_0), ((HB.out.cell (World.block_lt_of_cell? w _ hw133_0)).trans hw133_0), ((HB.out.cell (World.block_lt_of_cell? w _ hw134_0)).trans hw134_0)⟩ (fun hHeld => ?_)
 clear hK K
 refine norm_ (a' := ?_) ?_ ?_
 rotate_left
 {
 show Act.put _ (some 40) _ = _
 simp only [Act.put, List.setIfInBounds_toArray, List.set_cons_zero, List.set_cons_succ, i64_w, i32_w]
 rfl
 }
 exact norm_ (by first | (simp only [putAll, Act.put, List.setIfInBounds_toArray, List.set_cons_zero, List.set_cons_succ]; done) | (simp only [putAll, Act.put, List.setIfInBounds_toArray, List.set_cons_zero, List.set_cons_succ]; rfl)) (hJ6 () _ ⟨hHeld, (Bh BK123), wB⟩)
 }
 {
 skip
 refine box_step ?hg (N := 8) ?hd (cs := #[.int .i64 0, .int .i64 0, .bool false, .bool false, .int .i64 0, .int .i64 0, .int .i64 0, .int .i64 0, .int .i64 0, .slice none 0 0, .slice none 0 0]) (t := 51) ?hr ?_; (case hd => rfl); (case hg => rfl); (case hr => first | (go_simp; done) | (go_simp; rfl))
 intro gb147 hg w2008 hbox hb
 have n0_ := Aside0.mk (blk_below (Bh BK123) hb)
 have n1_ := Aside0.mk (below_step wB hb)
 have n2_ := Aside0.mk (hbox)
 have n3_ := Aside0.mk ((by rw [hg]; exact (below_size wB) : w.heap.size ≤ gb147))
 have n4_ := Aside0.mk ((by rw [hg]; exact (below_size wB) : w.heap.size ≤ gb147))
 have n5_ := Aside0.mk ((by rw [hg]; exact Nat.ne_of_lt (blk_lt (Bh BK123)) : gb123 ≠ gb147))
 have n6_ := Aside0.mk ((by rw [hg]; exact Nat.ne_of_gt (blk_lt (Bh BK123)) : gb147 ≠ gb123))
 clear BK123
 clear HB
 have BK123 := n0_
 have HB := n1_
 have BK147 := n2_
 have GW147 := n3_
 have GE147 := n4_
 have NB123_147 := n5_
 have NB147_123 := n6_
 clear n0_ n1_ n2_ n3_ n4_ n5_ n6_
 clear hb hbox hg
 refine hK.out _ _ ⟨((HB.out.cell (World.block_lt_of_cell? w _ hw130_0)).trans hw130_0), ((HB.out.cell (World.block_lt_of_cell? w _ hw133_0)).trans hw133_0), ((HB.out.cell (World.block_lt_of_cell? w _ hw134_0)).trans hw134_0)⟩ (fun hHeld => ?_)
 clear hK K
 refine norm_ (a' := ?_) ?_ ?_
 rotate_left
 {
 show Act.put _ (some 8) _ = _
 simp only [Act.put, List.setIfInBounds_toArray, List.set_cons_zero, List.set_cons_succ, i64_w, i32_w]
 rfl
 }
 exact norm_ (by first | (simp only [putAll, Act.put, List.setIfInBounds_toArray, List.set_cons_zero, List.set_cons_succ]; done) | (simp only [putAll, Act.put, List.setIfInBounds_toArray, List.set_cons_zero, List.set_cons_succ]; rfl)) (hJ40 (gb147) _ ⟨hHeld, (Bh BK123), (Bh BK147), GW147.out, GE147.out, NB123_147.out, NB147_123.out, wB⟩)
 }
 }
 {
 skip
 rintro gb147 w2009 ⟨hS_, h0_, h1_, h2_, h3_, h4_, h5_, h6_⟩
 have n0_ : Aside0 (w2009.heap[gb123]? = some (.cells #[.int .i64 0, .int .i64 0, .bool false, .bool false, .int .i64 0, .int .i64 0, .int .i64 0, .int .i64 0, .int .i64 0, .slice none 0 0, .slice none 0 0] 51 (0, 0))) := ⟨h0_⟩
 have n1_ : Aside0 (w2009.heap[gb147]? = some (.cells #[.int .i64 0, .int .i64 0, .bool false, .bool false, .int .i64 0, .int .i64 0, .int .i64 0, .int .i64 0, .int .i64 0, .slice none 0 0, .slice none 0 0] 51 (0, 0))) := ⟨h1_⟩
 have n2_ : Aside0 (w.heap.size ≤ gb147) := ⟨h2_⟩
 have n3_ : Aside0 (w.heap.size ≤ gb147) := ⟨h3_⟩
 have n4_ : Aside0 (gb123 ≠ gb147) := ⟨h4_⟩
 have n5_ : Aside0 (gb147 ≠ gb123) := ⟨h5_⟩
 have n6_ : Aside0 (Below w.heap.size w w2009) := ⟨h6_⟩
 clear BK123
 clear HB
 clear h0_ h1_ h2_ h3_ h4_ h5_ h6_
 have BK123 := n0_
 have BK147 := n1_
 have GW147 := n2_
 have GE147 := n3_
 have NB123_147 := n4_
 have NB147_123 := n5_
 have HB := n6_
 clear n0_ n1_ n2_ n3_ n4_ n5_ n6_
 have hHeld : w2009.cell? ⟨ad130.block, ad130.off + 1, none⟩ = some (.int .u8 (rd l0 1)) ∧ w2009.cell? ⟨ad130.block, ad130.off + 8, none⟩ = some (.int .u8 (rd l0 8)) ∧ w2009.cell? ⟨ad130.block, ad130.off + 9, none⟩ = some (.int .u8 (rd l0 9)) := hS_
 refine norm_ (a' := ?_) ?_ ?_
 rotate_left
 {
 simp only [putAll, Act.put, List.setIfInBounds_toArray, List.set_cons_zero, List.set_cons_succ]
 rfl
 }
 refine one_ (i := 6) (N := some 40) #[true, true, true, true, true, true, true, true, true, true, true, true, true, true, true, true, true, true, true, true, true, true, true, true, true, true, false, true, true, false, true, true, true, false, true, true, true, true, false, false, true, false] rfl rfl (one_of HT_.out (by kernel_rfl)) (by decide) (fun K hK => ?_)
 refine goes_ Try.func70 (by kernel_rfl) rfl #[.slice A2003 ((l0.take 6).drop 4).length (c0 - 4)] (by rfl) rfl rfl (by (try simp only [List.map_toArray, List.map_cons, List.map_nil]); first | done | (rw [show ((l0.take 6).drop 4).length = (6 - 4) from (by rw [List.length_drop, List.length_take]; have h_ : (6 : Int) ≤ (l0.length : Int) := of_decide_eq_true (by first | (with_reducible assumption) | assumption); omega)] <;> rfl) | rfl | (simp only [List.length_drop, List.length_take]; rfl)) ?_
 with_reducible refine (spec_l03Num.calls kj6 _ _ ((l0.take 6).drop 4) t132 _ ?side1 ?side2 A1011.out).mono ?_
 (case side1 => exact Kd.C_below HR131.out wB)
 (case side2 => exact HC131.out)
 rintro e w' ⟨rfl, ⟨nd, rfl⟩⟩
 refine ⟨_, rfl, ?_⟩
 refine hK.out _ _ ⟨((HB.out.cell (World.block_lt_of_cell? w _ hw130_0)).trans hw130_0), ((HB.out.cell (World.block_lt_of_cell? w _ hw133_0)).trans hw133_0), ((HB.out.cell (World.block_lt_of_cell? w _ hw134_0)).trans hw134_0)⟩ (fun hHeld => ?_)
 clear hK K
 refine norm_ (a' := ?_) ?_ ?_
 rotate_left
 {
 show Act.put _ (some 40) _ = _
 simp only [Act.put, List.setIfInBounds_toArray, List.set_cons_zero, List.set_cons_succ, i64_w, i32_w]
 rfl
 }
 exact norm_ (by first | (simp only [putAll, Act.put, List.setIfInBounds_toArray, List.set_cons_zero, List.set_cons_succ]; done) | (simp only [putAll, Act.put, List.setIfInBounds_toArray, List.set_cons_zero, List.set_cons_succ]; rfl)) (hJ6_40 (gb147) _ ⟨hHeld, (Bh BK123), (Bh BK147), GW147.out, GE147.out, NB123_147.out, NB147_123.out, wB⟩)
 }
 }
 {
 skip
 rintro _ w2008 ⟨hS_, h0_, h1_⟩
 have n0_ : Aside0 (w2008.heap[gb123]? = some (.cells #[.int .i64 0, .int .i64 0, .bool false, .bool false, .int .i64 0, .int .i64 0, .int .i64 0, .int .i64 0, .int .i64 0, .slice none 0 0, .slice none 0 0] 51 (0, 0))) := ⟨h0_⟩
 have n1_ : Aside0 (Below w.heap.size w w2008) := ⟨h1_⟩
 clear BK123
 clear HB
 clear h0_ h1_
 have BK123 := n0_
 have HB := n1_
 clear n0_ n1_
 have hHeld : w2008.cell? ⟨ad130.block, ad130.off + 1, none⟩ = some (.int .u8 (rd l0 1)) ∧ w2008.cell? ⟨ad130.block, ad130.off + 8, none⟩ = some (.int .u8 (rd l0 8)) ∧ w2008.cell? ⟨ad130.block, ad130.off + 9, none⟩ = some (.int .u8 (rd l0 9)) := hS_
 refine norm_ (a' := ?_) ?_ ?_
 rotate_left
 {
 simp only [putAll, Act.put, List.setIfInBounds_toArray, List.set_cons_zero, List.set_cons_succ]
 rfl
 }
 refine two_ (i := 26) (j := 40) (Ni := some 60) (Nj := some 8) #[true, true, true, true, true, true, true, true, true, true, true, true, true, true, true, true, true, true, true, true, true, true, true, true, true, true, true, true, true, false, true, true, true, false, true, true, true, true, false, false, false, false] #[true, true, true, true, true, true, true, true, true, true, true, true, true, true, true, true, true, true, true, true, true, true, true, true, true, true, false, true, true, false, true, true, true, false, true, true, true, true, false, false, true, false] rfl rfl rfl rfl (two_of HT_.out (by kernel_rfl)) (by decide) (by decide) (fun K hK => ?_) (fun K hK => ?_)
 {
 skip
 refine goes_ Try.func70 (by kernel_rfl) rfl #[.slice A2004 ((l0.take 16).drop 12).length (c0 - 12)] (by rfl) rfl rfl (by (try simp only [List.map_toArray, List.map_cons, List.map_nil]); first | done | (rw [show ((l0.take 16).drop 12).length = (16 - 12) from (by rw [List.length_drop, List.length_take]; have h_ : (16 : Int) ≤ (l0.length : Int) := of_decide_eq_true (by first | (with_reducible assumption) | assumption); omega)] <;> rfl) | rfl | (simp only [List.length_drop, List.length_take]; rfl)) ?_
 with_reducible refine (spec_l03Num.calls kj6 _ _ ((l0.take 16).drop 12) t136 _ ?side1 ?side2 A1016.out).mono ?_
 (case side1 => exact Kd.C_below HR135.out wB)
 (case side2 => exact HC135.out)
 rintro e w' ⟨rfl, ⟨nd, rfl⟩⟩
 refine ⟨_, rfl, ?_⟩
 refine hK.out _ _ ⟨((HB.out.cell (World.block_lt_of_cell? w _ hw130_0)).trans hw130_0), ((HB.out.cell (World.block_lt_of_cell? w _ hw133_0)).trans hw133_0), ((HB.out.cell (World.block_lt_of_cell? w _ hw134_0)).trans hw134_0)⟩ (fun hHeld => ?_)
 clear hK K
 refine norm_ (a' := ?_) ?_ ?_
 rotate_left
 {
 show Act.put _ (some 60) _ = _
 simp only [Act.put, List.setIfInBounds_toArray, List.set_cons_zero, List.set_cons_succ, i64_w, i32_w]
 rfl
 }
 exact norm_ (by first | (simp only [putAll, Act.put, List.setIfInBounds_toArray, List.set_cons_zero, List.set_cons_succ]; done) | (simp only [putAll, Act.put, List.setIfInBounds_toArray, List.set_cons_zero, List.set_cons_succ]; rfl)) (hJ6_26 () _ ⟨hHeld, (Bh BK123), wB⟩)
 }
 {
 skip
 refine box_step ?hg (N := 8) ?hd (cs := #[.int .i64 0, .int .i64 0, .bool false, .bool false, .int .i64 0, .int .i64 0, .int .i64 0, .int .i64 0, .int .i64 0, .slice none 0 0, .slice none 0 0]) (t := 51) ?hr ?_; (case hd => rfl); (case hg => rfl); (case hr => first | (go_simp; done) | (go_simp; rfl))
 intro gb147 hg w2009 hbox hb
 have n0_ := Aside0.mk (blk_below (Bh BK123) hb)
 have n1_ := Aside0.mk (below_step wB hb)
 have n2_ := Aside0.mk (hbox)
 have n3_ := Aside0.mk ((by rw [hg]; exact (below_size wB) : w.heap.size ≤ gb147))
 have n4_ := Aside0.mk ((by rw [hg]; exact (below_size wB) : w.heap.size ≤ gb147))
 have n5_ := Aside0.mk ((by rw [hg]; exact Nat.ne_of_lt (blk_lt (Bh BK123)) : gb123 ≠ gb147))
 have n6_ := Aside0.mk ((by rw [hg]; exact Nat.ne_of_gt (blk_lt (Bh BK123)) : gb147 ≠ gb123))
 clear BK123
 clear HB
 have BK123 := n0_
 have HB := n1_
 have BK147 := n2_
 have GW147 := n3_
 have GE147 := n4_
 have NB123_147 := n5_
 have NB147_123 := n6_
 clear n0_ n1_ n2_ n3_ n4_ n5_ n6_
 clear hb hbox hg
 refine hK.out _ _ ⟨((HB.out.cell (World.block_lt_of_cell? w _ hw130_0)).trans hw130_0), ((HB.out.cell (World.block_lt_of_cell? w _ hw133_0)).trans hw133_0), ((HB.out.cell (World.block_lt_of_cell? w _ hw134_0)).trans hw134_0)⟩ (fun hHeld => ?_)
 clear hK K
 refine norm_ (a' := ?_) ?_ ?_
 rotate_left
 {
 show Act.put _ (some 8) _ = _
 simp only [Act.put, List.setIfInBounds_toArray, List.set_cons_zero, List.set_cons_succ, i64_w, i32_w]
 rfl
 }
 exact norm_ (by first | (simp only [putAll, Act.put, List.setIfInBounds_toArray, List.set_cons_zero, List.set_cons_succ]; done) | (simp only [putAll, Act.put, List.setIfInBounds_toArray, List.set_cons_zero, List.set_cons_succ]; rfl)) (hJ6_40 (gb147) _ ⟨hHeld, (Bh BK123), (Bh BK147), GW147.out, GE147.out, NB123_147.out, NB147_123.out, wB⟩)
 }
 }
 }
 {
 skip
 rintro gb147 w2009 ⟨hS_, h0_, h1_, h2_, h3_, h4_, h5_, h6_⟩
 have n0_ : Aside0 (w2009.heap[gb123]? = some (.cells #[.int .i64 0, .int .i64 0, .bool false, .bool false, .int .i64 0, .int .i64 0, .int .i64 0, .int .i64 0, .int .i64 0, .slice none 0 0, .slice none 0 0] 51 (0, 0))) := ⟨h0_⟩
 have n1_ : Aside0 (w2009.heap[gb147]? = some (.cells #[.int .i64 0, .int .i64 0, .bool false, .bool false, .int .i64 0, .int .i64 0, .int .i64 0, .int .i64 0, .int .i64 0, .slice none 0 0, .slice none 0 0] 51 (0, 0))) := ⟨h1_⟩
 have n2_ : Aside0 (w.heap.size ≤ gb147) := ⟨h2_⟩
 have n3_ : Aside0 (w.heap.size ≤ gb147) := ⟨h3_⟩
 have n4_ : Aside0 (gb123 ≠ gb147) := ⟨h4_⟩
 have n5_ : Aside0 (gb147 ≠ gb123) := ⟨h5_⟩
 have n6_ : Aside0 (Below w.heap.size w w2009) := ⟨h6_⟩
 clear BK123
 clear HB
 clear h0_ h1_ h2_ h3_ h4_ h5_ h6_
 have BK123 := n0_
 have BK147 := n1_
 have GW147 := n2_
 have GE147 := n3_
 have NB123_147 := n4_
 have NB147_123 := n5_
 have HB := n6_
 clear n0_ n1_ n2_ n3_ n4_ n5_ n6_
 have hHeld : w2009.cell? ⟨ad130.block, ad130.off + 1, none⟩ = some (.int .u8 (rd l0 1)) ∧ w2009.cell? ⟨ad130.block, ad130.off + 8, none⟩ = some (.int .u8 (rd l0 8)) ∧ w2009.cell? ⟨ad130.block, ad130.off + 9, none⟩ = some (.int .u8 (rd l0 9)) := hS_
 refine norm_ (a' := ?_) ?_ ?_
 rotate_left
 {
 simp only [putAll, Act.put, List.setIfInBounds_toArray, List.set_cons_zero, List.set_cons_succ]
 rfl
 }
 refine one_ (i := 26) (N := some 60) #[true, true, true, true, true, true, true, true, true, true, true, true, true, true, true, true, true, true, true, true, true, true, true, true, true, true, true, true, true, false, true, true, true, false, true, true, true, true, false, false, true, false] rfl rfl (one_of HT_.out (by kernel_rfl)) (by decide) (fun K hK => ?_)
 refine goes_ Try.func70 (by kernel_rfl) rfl #[.slice A2004 ((l0.take 16).drop 12).length (c0 - 12)] (by rfl) rfl rfl (by (try simp only [List.map_toArray, List.map_cons, List.map_nil]); first | done | (rw [show ((l0.take 16).drop 12).length = (16 - 12) from (by rw [List.length_drop, List.length_take]; have h_ : (16 : Int) ≤ (l0.length : Int) := of_decide_eq_true (by first | (with_reducible assumption) | assumption); omega)] <;> rfl) | rfl | (simp only [List.length_drop, List.length_take]; rfl)) ?_
 with_reducible refine (spec_l03Num.calls kj6 _ _ ((l0.take 16).drop 12) t136 _ ?side1 ?side2 A1016.out).mono ?_
 (case side1 => exact Kd.C_below HR135.out wB)
 (case side2 => exact HC135.out)
 rintro e w' ⟨rfl, ⟨nd, rfl⟩⟩
 refine ⟨_, rfl, ?_⟩
 refine hK.out _ _ ⟨((HB.out.cell (World.block_lt_of_cell? w _ hw130_0)).trans hw130_0), ((HB.out.cell (World.block_lt_of_cell? w _ hw133_0)).trans hw133_0), ((HB.out.cell (World.block_lt_of_cell? w _ hw134_0)).trans hw134_0)⟩ (fun hHeld => ?_)
 clear hK K
 refine norm_ (a' := ?_) ?_ ?_
 rotate_left
 {
 show Act.put _ (some 60) _ = _
 simp only [Act.put, List.setIfInBounds_toArray, List.set_cons_zero, List.set_cons_succ, i64_w, i32_w]
 rfl
 }
 exact norm_ (by first | (simp only [putAll, Act.put, List.setIfInBounds_toArray, List.set_cons_zero, List.set_cons_succ]; done) | (simp only [putAll, Act.put, List.setIfInBounds_toArray, List.set_cons_zero, List.set_cons_succ]; rfl)) (hJ6_26_40 (gb147) _ ⟨hHeld, (Bh BK123), (Bh BK147), GW147.out, GE147.out, NB123_147.out, NB147_123.out, wB⟩)
 }
 }
 {
 skip
 rintro _ w2008 ⟨hS_, h0_, h1_⟩
 have n0_ : Aside0 (w2008.heap[gb123]? = some (.cells #[.int .i64 0, .int .i64 0, .bool false, .bool false, .int .i64 0, .int .i64 0, .int .i64 0, .int .i64 0, .int .i64 0, .slice none 0 0, .slice none 0 0] 51 (0, 0))) := ⟨h0_⟩
 have n1_ : Aside0 (Below w.heap.size w w2008) := ⟨h1_⟩
 clear BK123
 clear HB
 clear h0_ h1_
 have BK123 := n0_
 have HB := n1_
 clear n0_ n1_
 have hHeld : w2008.cell? ⟨ad130.block, ad130.off + 1, none⟩ = some (.int .u8 (rd l0 1)) ∧ w2008.cell? ⟨ad130.block, ad130.off + 8, none⟩ = some (.int .u8 (rd l0 8)) ∧ w2008.cell? ⟨ad130.block, ad130.off + 9, none⟩ = some (.int .u8 (rd l0 9)) := hS_
 refine norm_ (a' := ?_) ?_ ?_
 rotate_left
 {
 simp only [putAll, Act.put, List.setIfInBounds_toArray, List.set_cons_zero, List.set_cons_succ]
 rfl
 }
 refine two_ (i := 29) (j := 40) (Ni := some 63) (Nj := some 8) #[true, true, true, true, true, true, true, true, true, true, true, true, true, true, true, true, true, true, true, true, true, true, true, true, true, true, true, true, true, true, true, true, true, false, true, true, true, true, false, false, false, false] #[true, true, true, true, true, true, true, true, true, true, true, true, true, true, true, true, true, true, true, true, true, true, true, true, true, true, true, true, true, false, true, true, true, false, true, true, true, true, false, false, true, false] rfl rfl rfl rfl (two_of HT_.out (by kernel_rfl)) (by decide) (by decide) (fun K hK => ?_) (fun K hK => ?_)
 {
 skip
 refine goes_ Try.func70 (by kernel_rfl) rfl #[.slice A2005 ((l0.take 20).drop 16).length (c0 - 16)] (by rfl) rfl rfl (by (try simp only [List.map_toArray, List.map_cons, List.map_nil]); first | done | (rw [show ((l0.take 20).drop 16).length = (20 - 16) from (by rw [List.length_drop, List.length_take]; have h_ : (20 : Int) ≤ (l0.length : Int) := of_decide_eq_true (by first | (with_reducible assumption) | assumption); omega)] <;> rfl) | rfl | (simp only [List.length_drop, List.length_take]; rfl)) ?_
 with_reducible refine (spec_l03Num.calls kj6 _ _ ((l0.take 20).drop 16) t138 _ ?side1 ?side2 A1019.out).mono ?_
 (case side1 => exact Kd.C_below HR137.out wB)
 (case side2 => exact HC137.out)
 rintro e w' ⟨rfl, ⟨nd, rfl⟩⟩
 refine ⟨_, rfl, ?_⟩
 refine hK.out _ _ ⟨((HB.out.cell (World.block_lt_of_cell? w _ hw130_0)).trans hw130_0), ((HB.out.cell (World.block_lt_of_cell? w _ hw133_0)).trans hw133_0), ((HB.out.cell (World.block_lt_of_cell? w _ hw134_0)).trans hw134_0)⟩ (fun hHeld => ?_)
 clear hK K
 refine norm_ (a' := ?_) ?_ ?_
 rotate_left
 {
 show Act.put _ (some 63) _ = _
 simp only [Act.put, List.setIfInBounds_toArray, List.set_cons_zero, List.set_cons_succ, i64_w, i32_w]
 rfl
 }
 exact norm_ (by first | (simp only [putAll, Act.put, List.setIfInBounds_toArray, List.set_cons_zero, List.set_cons_succ]; done) | (simp only [putAll, Act.put, List.setIfInBounds_toArray, List.set_cons_zero, List.set_cons_succ]; rfl)) (hJ6_26_29 () _ ⟨hHeld, (Bh BK123), wB⟩)
 }
 {
 skip
 refine box_step ?hg (N := 8) ?hd (cs := #[.int .i64 0, .int .i64 0, .bool false, .bool false, .int .i64 0, .int .i64 0, .int .i64 0, .int .i64 0, .int .i64 0, .slice none 0 0, .slice none 0 0]) (t := 51) ?hr ?_; (case hd => rfl); (case hg => rfl); (case hr => first | (go_simp; done) | (go_simp; rfl))
 intro gb147 hg w2009 hbox hb
 have n0_ := Aside0.mk (blk_below (Bh BK123) hb)
 have n1_ := Aside0.mk (below_step wB hb)
 have n2_ := Aside0.mk (hbox)
 have n3_ := Aside0.mk ((by rw [hg]; exact (below_size wB) : w.heap.size ≤ gb147))
 have n4_ := Aside0.mk ((by rw [hg]; exact (below_size wB) : w.heap.size ≤ gb147))
 have n5_ := Aside0.mk ((by rw [hg]; exact Nat.ne_of_lt (blk_lt (Bh BK123)) : gb123 ≠ gb147))
 have n6_ := Aside0.mk ((by rw [hg]; exact Nat.ne_of_gt (blk_lt (Bh BK123)) : gb147 ≠ gb123))
 clear BK123
 clear HB
 have BK123 := n0_
 have HB := n1_
 have BK147 := n2_
 have GW147 := n3_
 have GE147 := n4_
 have NB123_147 := n5_
 have NB147_123 := n6_
 clear n0_ n1_ n2_ n3_ n4_ n5_ n6_
 clear hb hbox hg
 refine hK.out _ _ ⟨((HB.out.cell (World.block_lt_of_cell? w _ hw130_0)).trans hw130_0), ((HB.out.cell (World.block_lt_of_cell? w _ hw133_0)).trans hw133_0), ((HB.out.cell (World.block_lt_of_cell? w _ hw134_0)).trans hw134_0)⟩ (fun hHeld => ?_)
 clear hK K
 refine norm_ (a' := ?_) ?_ ?_
 rotate_left
 {
 show Act.put _ (some 8) _ = _
 simp only [Act.put, List.setIfInBounds_toArray, List.set_cons_zero, List.set_cons_succ, i64_w, i32_w]
 rfl
 }
 exact norm_ (by first | (simp only [putAll, Act.put, List.setIfInBounds_toArray, List.set_cons_zero, List.set_cons_succ]; done) | (simp only [putAll, Act.put, List.setIfInBounds_toArray, List.set_cons_zero, List.set_cons_succ]; rfl)) (hJ6_26_40 (gb147) _ ⟨hHeld, (Bh BK123), (Bh BK147), GW147.out, GE147.out, NB123_147.out, NB147_123.out, wB⟩)
 }
 }
 }
 {
 skip
 rintro gb147 w2009 ⟨hS_, h0_, h1_, h2_, h3_, h4_, h5_, h6_⟩
 have n0_ : Aside0 (w2009.heap[gb123]? = some (.cells #[.int .i64 0, .int .i64 0, .bool false, .bool false, .int .i64 0, .int .i64 0, .int .i64 0, .int .i64 0, .int .i64 0, .slice none 0 0, .slice none 0 0] 51 (0, 0))) := ⟨h0_⟩
 have n1_ : Aside0 (w2009.heap[gb147]? = some (.cells #[.int .i64 0, .int .i64 0, .bool false, .bool false, .int .i64 0, .int .i64 0, .int .i64 0, .int .i64 0, .int .i64 0, .slice none 0 0, .slice none 0 0] 51 (0, 0))) := ⟨h1_⟩
 have n2_ : Aside0 (w.heap.size ≤ gb147) := ⟨h2_⟩
 have n3_ : Aside0 (w.heap.size ≤ gb147) := ⟨h3_⟩
 have n4_ : Aside0 (gb123 ≠ gb147) := ⟨h4_⟩
 have n5_ : Aside0 (gb147 ≠ gb123) := ⟨h5_⟩
 have n6_ : Aside0 (Below w.heap.size w w2009) := ⟨h6_⟩
 clear BK123
 clear HB
 clear h0_ h1_ h2_ h3_ h4_ h5_ h6_
 have BK123 := n0_
 have BK147 := n1_
 have GW147 := n2_
 have GE147 := n3_
 have NB123_147 := n4_
 have NB147_123 := n5_
 have HB := n6_
 clear n0_ n1_ n2_ n3_ n4_ n5_ n6_
 have hHeld : w2009.cell? ⟨ad130.block, ad130.off + 1, none⟩ = some (.int .u8 (rd l0 1)) ∧ w2009.cell? ⟨ad130.block, ad130.off + 8, none⟩ = some (.int .u8 (rd l0 8)) ∧ w2009.cell? ⟨ad130.block, ad130.off + 9, none⟩ = some (.int .u8 (rd l0 9)) := hS_
 refine norm_ (a' := ?_) ?_ ?_
 rotate_left
 {
 simp only [putAll, Act.put, List.setIfInBounds_toArray, List.set_cons_zero, List.set_cons_succ]
 rfl
 }
 refine one_ (i := 29) (N := some 63) #[true, true, true, true, true, true, true, true, true, true, true, true, true, true, true, true, true, true, true, true, true, true, true, true, true, true, true, true, true, true, true, true, true, false, true, true, true, true, false, false, true, false] rfl rfl (one_of HT_.out (by kernel_rfl)) (by decide) (fun K hK => ?_)
 refine goes_ Try.func70 (by kernel_rfl) rfl #[.slice A2005 ((l0.take 20).drop 16).length (c0 - 16)] (by rfl) rfl rfl (by (try simp only [List.map_toArray, List.map_cons, List.map_nil]); first | done | (rw [show ((l0.take 20).drop 16).length = (20 - 16) from (by rw [List.length_drop, List.length_take]; have h_ : (20 : Int) ≤ (l0.length : Int) := of_decide_eq_true (by first | (with_reducible assumption) | assumption); omega)] <;> rfl) | rfl | (simp only [List.length_drop, List.length_take]; rfl)) ?_
 with_reducible refine (spec_l03Num.calls kj6 _ _ ((l0.take 20).drop 16) t138 _ ?side1 ?side2 A1019.out).mono ?_
 (case side1 => exact Kd.C_below HR137.out wB)
 (case side2 => exact HC137.out)
 rintro e w' ⟨rfl, ⟨nd, rfl⟩⟩
 refine ⟨_, rfl, ?_⟩
 refine hK.out _ _ ⟨((HB.out.cell (World.block_lt_of_cell? w _ hw130_0)).trans hw130_0), ((HB.out.cell (World.block_lt_of_cell? w _ hw133_0)).trans hw133_0), ((HB.out.cell (World.block_lt_of_cell? w _ hw134_0)).trans hw134_0)⟩ (fun hHeld => ?_)
 clear hK K
 refine norm_ (a' := ?_) ?_ ?_
 rotate_left
 {
 show Act.put _ (some 63) _ = _
 simp only [Act.put, List.setIfInBounds_toArray, List.set_cons_zero, List.set_cons_succ, i64_w, i32_w]
 rfl
 }
 exact norm_ (by first | (simp only [putAll, Act.put, List.setIfInBounds_toArray, List.set_cons_zero, List.set_cons_succ]; done) | (simp only [putAll, Act.put, List.setIfInBounds_toArray, List.set_cons_zero, List.set_cons_succ]; rfl)) (hJ6_26_29_40 (gb147) _ ⟨hHeld, (Bh BK123), (Bh BK147), GW147.out, GE147.out, NB123_147.out, NB147_123.out, wB⟩)
 }
 }
 {
 skip
 rintro _ w2008 ⟨hS_, h0_, h1_⟩
 have n0_ : Aside0 (w2008.heap[gb123]? = some (.cells #[.int .i64 0, .int .i64 0, .bool false, .bool false, .int .i64 0, .int .i64 0, .int .i64 0, .int .i64 0, .int .i64 0, .slice none 0 0, .slice none 0 0] 51 (0, 0))) := ⟨h0_⟩
 have n1_ : Aside0 (Below w.heap.size w w2008) := ⟨h1_⟩
 clear BK123
 clear HB
 clear h0_ h1_
 have BK123 := n0_
 have HB := n1_
 clear n0_ n1_
 have hHeld : w2008.cell? ⟨ad130.block, ad130.off + 1, none⟩ = some (.int .u8 (rd l0 1)) ∧ w2008.cell? ⟨ad130.block, ad130.off + 8, none⟩ = some (.int .u8 (rd l0 8)) ∧ w2008.cell? ⟨ad130.block, ad130.off + 9, none⟩ = some (.int .u8 (rd l0 9)) := hS_
 refine norm_ (a' := ?_) ?_ ?_
 rotate_left
 {
 simp only [putAll, Act.put, List.setIfInBounds_toArray, List.set_cons_zero, List.set_cons_succ]
 rfl
 }
 refine two_ (i := 33) (j := 40) (Ni := some 67) (Nj := some 8) #[true, true, true, true, true, true, true, true, true, true, true, true, true, true, true, true, true, true, true, true, true, true, true, true, true, true, true, true, true, true, true, true, true, true, true, true, true, true, false, false, false, false] #[true, true, true, true, true, true, true, true, true, true, true, true, true, true, true, true, true, true, true, true, true, true, true, true, true, true, true, true, true, true, true, true, true, false, true, true, true, true, false, false, true, false] rfl rfl rfl rfl (two_of HT_.out (by kernel_rfl)) (by decide) (by decide) (fun K hK => ?_) (fun K hK => ?_)
 {
 skip
 refine goes_ Try.func79 (by kernel_rfl) rfl #[.slice A2006 ((l0.take (t124 : Int).toNat).drop 20).length (c0 - 20)] (by rfl) rfl rfl (by (try simp only [List.map_toArray, List.map_cons, List.map_nil]); first | done | (rw [show ((l0.take (t124 : Int).toNat).drop 20).length = (t124.toNat - 20) from (by rw [List.length_drop, List.length_take]; have h_ : (t124 : Int) ≤ (l0.length : Int) := of_decide_eq_true (by first | (with_reducible assumption) | assumption); omega)] <;> rfl) | rfl | (simp only [List.length_drop, List.length_take]; rfl)) ?_
 with_reducible refine (spec_l01Copy.calls kj6 _ _ ((l0.take (t124 : Int).toNat).drop 20) t140 _ ?side1 ?side2 A1022.out).mono ?_
 (case side1 => exact Kd.C_below HR139.out wB)
 (case side2 => exact HC139.out)
 rintro e w2009 ⟨v141, rfl, ho0, hb⟩
 refine ⟨_, rfl, ?_⟩
 have n0_ := Aside0.mk (Kd.R_lower ho0 (below_size wB))
 have n1_ := Aside0.mk (blk_below (Bh BK123) hb)
 have n2_ := Aside0.mk (below_step wB hb)
 clear BK123
 clear HB
 have HO142 := n0_
 have BK123 := n1_
 have HB := n2_
 clear n0_ n1_ n2_
 (try clear hb)
 (try clear hb2)
 (try clear hk)
 (try clear hi)
 (try clear ho0)
 refine hK.out _ _ ⟨((HB.out.cell (World.block_lt_of_cell? w _ hw130_0)).trans hw130_0), ((HB.out.cell (World.block_lt_of_cell? w _ hw133_0)).trans hw133_0), ((HB.out.cell (World.block_lt_of_cell? w _ hw134_0)).trans hw134_0)⟩ (fun hHeld => ?_)
 clear hK K
 refine norm_ (a' := ?_) ?_ ?_
 rotate_left
 {
 show Act.put _ (some 67) _ = _
 simp only [Act.put, List.setIfInBounds_toArray, List.set_cons_zero, List.set_cons_succ, i64_w, i32_w]
 rfl
 }
 exact norm_ (by first | (simp only [putAll, Act.put, List.setIfInBounds_toArray, List.set_cons_zero, List.set_cons_succ]; done) | (simp only [putAll, Act.put, List.setIfInBounds_toArray, List.set_cons_zero, List.set_cons_succ]; rfl)) (hJ6_26_29_33 (v141) _ ⟨hHeld, (Rh HO142), (Bh BK123), wB⟩)
 }
 {
 skip
 refine box_step ?hg (N := 8) ?hd (cs := #[.int .i64 0, .int .i64 0, .bool false, .bool false, .int .i64 0, .int .i64 0, .int .i64 0, .int .i64 0, .int .i64 0, .slice none 0 0, .slice none 0 0]) (t := 51) ?hr ?_; (case hd => rfl); (case hg => rfl); (case hr => first | (go_simp; done) | (go_simp; rfl))
 intro gb147 hg w2009 hbox hb
 have n0_ := Aside0.mk (blk_below (Bh BK123) hb)
 have n1_ := Aside0.mk (below_step wB hb)
 have n2_ := Aside0.mk (hbox)
 have n3_ := Aside0.mk ((by rw [hg]; exact (below_size wB) : w.heap.size ≤ gb147))
 have n4_ := Aside0.mk ((by rw [hg]; exact (below_size wB) : w.heap.size ≤ gb147))
 have n5_ := Aside0.mk ((by rw [hg]; exact Nat.ne_of_lt (blk_lt (Bh BK123)) : gb123 ≠ gb147))
 have n6_ := Aside0.mk ((by rw [hg]; exact Nat.ne_of_gt (blk_lt (Bh BK123)) : gb147 ≠ gb123))
 clear BK123
 clear HB
 have BK123 := n0_
 have HB := n1_
 have BK147 := n2_
 have GW147 := n3_
 have GE147 := n4_
 have NB123_147 := n5_
 have NB147_123 := n6_
 clear n0_ n1_ n2_ n3_ n4_ n5_ n6_
 clear hb hbox hg
 refine hK.out _ _ ⟨((HB.out.cell (World.block_lt_of_cell? w _ hw130_0)).trans hw130_0), ((HB.out.cell (World.block_lt_of_cell? w _ hw133_0)).trans hw133_0), ((HB.out.cell (World.block_lt_of_cell? w _ hw134_0)).trans hw134_0)⟩ (fun hHeld => ?_)
 clear hK K
 refine norm_ (a' := ?_) ?_ ?_
 rotate_left
 {
 show Act.put _ (some 8) _ = _
 simp only [Act.put, List.setIfInBounds_toArray, List.set_cons_zero, List.set_cons_succ, i64_w, i32_w]
 rfl
 }
 exact norm_ (by first | (simp only [putAll, Act.put, List.setIfInBounds_toArray, List.set_cons_zero, List.set_cons_succ]; done) | (simp only [putAll, Act.put, List.setIfInBounds_toArray, List.set_cons_zero, List.set_cons_succ]; rfl)) (hJ6_26_29_40 (gb147) _ ⟨hHeld, (Bh BK123), (Bh BK147), GW147.out, GE147.out, NB123_147.out, NB147_123.out, wB⟩)
 }
 }
 }
 {
 skip
 rintro gb147 w2009 ⟨hS_, h0_, h1_, h2_, h3_, h4_, h5_, h6_⟩
 have n0_ : Aside0 (w2009.heap[gb123]? = some (.cells #[.int .i64 0, .int .i64 0, .bool false, .bool false, .int .i64 0, .int .i64 0, .int .i64 0, .int .i64 0, .int .i64 0, .slice none 0 0, .slice none 0 0] 51 (0, 0))) := ⟨h0_⟩
 have n1_ : Aside0 (w2009.heap[gb147]? = some (.cells #[.int .i64 0, .int .i64 0, .bool false, .bool false, .int .i64 0, .int .i64 0, .int .i64 0, .int .i64 0, .int .i64 0, .slice none 0 0, .slice none 0 0] 51 (0, 0))) := ⟨h1_⟩
 have n2_ : Aside0 (w.heap.size ≤ gb147) := ⟨h2_⟩
 have n3_ : Aside0 (w.heap.size ≤ gb147) := ⟨h3_⟩
 have n4_ : Aside0 (gb123 ≠ gb147) := ⟨h4_⟩
 have n5_ : Aside0 (gb147 ≠ gb123) := ⟨h5_⟩
 have n6_ : Aside0 (Below w.heap.size w w2009) := ⟨h6_⟩
 clear BK123
 clear HB
 clear h0_ h1_ h2_ h3_ h4_ h5_ h6_
 have BK123 := n0_
 have BK147 := n1_
 have GW147 := n2_
 have GE147 := n3_
 have NB123_147 := n4_
 have NB147_123 := n5_
 have HB := n6_
 clear n0_ n1_ n2_ n3_ n4_ n5_ n6_
 have hHeld : w2009.cell? ⟨ad130.block, ad130.off + 1, none⟩ = some (.int .u8 (rd l0 1)) ∧ w2009.cell? ⟨ad130.block, ad130.off + 8, none⟩ = some (.int .u8 (rd l0 8)) ∧ w2009.cell? ⟨ad130.block, ad130.off + 9, none⟩ = some (.int .u8 (rd l0 9)) := hS_
 refine norm_ (a' := ?_) ?_ ?_
 rotate_left
 {
 simp only [putAll, Act.put, List.setIfInBounds_toArray, List.set_cons_zero, List.set_cons_succ]
 rfl
 }
 refine one_ (i := 33) (N := some 67) #[true, true, true, true, true, true, true, true, true, true, true, true, true, true, true, true, true, true, true, true, true, true, true, true, true, true, true, true, true, true, true, true, true, true, true, true, true, true, false, false, true, false] rfl rfl (one_of HT_.out (by kernel_rfl)) (by decide) (fun K hK => ?_)
 refine goes_ Try.func79 (by kernel_rfl) rfl #[.slice A2006 ((l0.take (t124 : Int).toNat).drop 20).length (c0 - 20)] (by rfl) rfl rfl (by (try simp only [List.map_toArray, List.map_cons, List.map_nil]); first | done | (rw [show ((l0.take (t124 : Int).toNat).drop 20).length = (t124.toNat - 20) from (by rw [List.length_drop, List.length_take]; have h_ : (t124 : Int) ≤ (l0.length : Int) := of_decide_eq_true (by first | (with_reducible assumption) | assumption); omega)] <;> rfl) | rfl | (simp only [List.length_drop, List.length_take]; rfl)) ?_
 with_reducible refine (spec_l01Copy.calls kj6 _ _ ((l0.take (t124 : Int).toNat).drop 20) t140 _ ?side1 ?side2 A1022.out).mono ?_
 (case side1 => exact Kd.C_below HR139.out wB)
 (case side2 => exact HC139.out)
 rintro e w2010 ⟨v141, rfl, ho0, hb⟩
 refine ⟨_, rfl, ?_⟩
 have n0_ := Aside0.mk (Kd.R_lower ho0 (below_size wB))
 have n1_ := Aside0.mk (blk_below (Bh BK123) hb)
 have n2_ := Aside0.mk (blk_below (Bh BK147) hb)
 have n3_ := Aside0.mk (below_step wB hb)
 clear BK123
 clear BK147
 clear HB
 have HO142 := n0_
 have BK123 := n1_
 have BK147 := n2_
 have HB := n3_
 clear n0_ n1_ n2_ n3_
 (try clear hb)
 (try clear hb2)
 (try clear hk)
 (try clear hi)
 (try clear ho0)
 refine hK.out _ _ ⟨((HB.out.cell (World.block_lt_of_cell? w _ hw130_0)).trans hw130_0), ((HB.out.cell (World.block_lt_of_cell? w _ hw133_0)).trans hw133_0), ((HB.out.cell (World.block_lt_of_cell? w _ hw134_0)).trans hw134_0)⟩ (fun hHeld => ?_)
 clear hK K
 refine norm_ (a' := ?_) ?_ ?_
 rotate_left
 {
 show Act.put _ (some 67) _ = _
 simp only [Act.put, List.setIfInBounds_toArray, List.set_cons_zero, List.set_cons_succ, i64_w, i32_w]
 rfl
 }
 exact norm_ (by first | (simp only [putAll, Act.put, List.setIfInBounds_toArray, List.set_cons_zero, List.set_cons_succ]; done) | (simp only [putAll, Act.put, List.setIfInBounds_toArray, List.set_cons_zero, List.set_cons_succ]; rfl)) (hJ6_26_29_33_40 (v141, gb147) _ ⟨hHeld, (Rh HO142), (Bh BK123), (Bh BK147), GW147.out, GE147.out, NB123_147.out, NB147_123.out, wB⟩)
 }
 }
 {
 skip
 rintro v141 w2009 ⟨hS_, h0_, h1_, h2_⟩
 have n0_ : Aside0 (Kd.R (Kd.int .u8) 5 w2009 w.heap.size (fun _ => True) v141 t140) := ⟨h0_⟩
 have n1_ : Aside0 (w2009.heap[gb123]? = some (.cells #[.int .i64 0, .int .i64 0, .bool false, .bool false, .int .i64 0, .int .i64 0, .int .i64 0, .int .i64 0, .int .i64 0, .slice none 0 0, .slice none 0 0] 51 (0, 0))) := ⟨h1_⟩
 have n2_ : Aside0 (Below w.heap.size w w2009) := ⟨h2_⟩
 clear BK123
 clear HB
 clear h0_ h1_ h2_
 have HO142 := n0_
 have BK123 := n1_
 have HB := n2_
 clear n0_ n1_ n2_
 have hHeld : w2009.cell? ⟨ad130.block, ad130.off + 1, none⟩ = some (.int .u8 (rd l0 1)) ∧ w2009.cell? ⟨ad130.block, ad130.off + 8, none⟩ = some (.int .u8 (rd l0 8)) ∧ w2009.cell? ⟨ad130.block, ad130.off + 9, none⟩ = some (.int .u8 (rd l0 9)) := hS_
 refine norm_ (a' := ?_) ?_ ?_
 rotate_left
 {
 simp only [putAll, Act.put, List.setIfInBounds_toArray, List.set_cons_zero, List.set_cons_succ]
 rfl
 }
 refine two_ (i := 38) (j := 40) (Ni := some 72) (Nj := some 8) #[true, true, true, true, true, true, true, true, true, true, true, true, true, true, true, true, true, true, true, true, true, true, true, true, true, true, true, true, true, true, true, true, true, true, true, true, true, true, true, false, false, false] #[true, true, true, true, true, true, true, true, true, true, true, true, true, true, true, true, true, true, true, true, true, true, true, true, true, true, true, true, true, true, true, true, true, true, true, true, true, true, false, false, true, false] rfl rfl rfl rfl (two_of HT_.out (by kernel_rfl)) (by decide) (by decide) (fun K hK => ?_) (fun K hK => ?_)
 {
 skip
 refine goes_ Try.func79 (by kernel_rfl) rfl #[.slice A2007 ((l0.take (t127 : Int).toNat).drop (t124 : Int).toNat).length (c0 - t124.toNat)] (by rfl) rfl rfl (by (try simp only [List.map_toArray, List.map_cons, List.map_nil]); first | done | (rw [show ((l0.take (t127 : Int).toNat).drop (t124 : Int).toNat).length = (t127.toNat - t124.toNat) from (by rw [List.length_drop, List.length_take]; have h_ : (t127 : Int) ≤ (l0.length : Int) := of_decide_eq_true (by first | (with_reducible assumption) | assumption); omega)] <;> rfl) | rfl | (simp only [List.length_drop, List.length_take]; rfl)) ?_
 with_reducible refine (spec_l01Copy.calls kj6 _ _ ((l0.take (t127 : Int).toNat).drop (t124 : Int).toNat) t144 _ ?side1 ?side2 A1026.out).mono ?_
 (case side1 => exact Kd.C_below HR143.out wB)
 (case side2 => exact HC143.out)
 rintro e w2010 ⟨v145, rfl, ho0, hb⟩
 refine ⟨_, rfl, ?_⟩
 have n0_ := Aside0.mk (Kd.R_elder' (Rh HO142) (Kd.R_base ho0) hb)
 have n1_ := Aside0.mk (Kd.R_lower (Kd.R_new' ho0 (Kd.R_lt (Rh HO142))) (below_size wB))
 have n2_ := Aside0.mk (blk_below (Bh BK123) hb)
 have n3_ := Aside0.mk (below_step wB hb)
 clear HO142
 clear BK123
 clear HB
 have HO142 := n0_
 have HO146 := n1_
 have BK123 := n2_
 have HB := n3_
 clear n0_ n1_ n2_ n3_
 (try clear hb)
 (try clear hb2)
 (try clear hk)
 (try clear hi)
 (try clear ho0)
 obtain ⟨Ao2011, co2011, eo2011⟩ := Kd.R_slice HO146.out
 (first | subst eo2011 | (injection eo2011 with f1_ f2_ f3_; have f4_ := f1_.symm; have f5_ := f3_.symm; clear f1_ f2_ f3_; subst f4_; subst f5_))
 obtain ⟨Ao2012, co2012, eo2012⟩ := Kd.R_slice HO142.out
 (first | subst eo2012 | (injection eo2012 with f1_ f2_ f3_; have f4_ := f1_.symm; have f5_ := f3_.symm; clear f1_ f2_ f3_; subst f4_; subst f5_))
 refine hK.out _ _ ⟨((HB.out.cell (World.block_lt_of_cell? w _ hw130_0)).trans hw130_0), ((HB.out.cell (World.block_lt_of_cell? w _ hw133_0)).trans hw133_0), ((HB.out.cell (World.block_lt_of_cell? w _ hw134_0)).trans hw134_0)⟩ (fun hHeld => ?_)
 clear hK K
 refine norm_ (a' := ?_) ?_ ?_
 rotate_left
 {
 show Act.put _ (some 72) _ = _
 simp only [Act.put, List.setIfInBounds_toArray, List.set_cons_zero, List.set_cons_succ, i64_w, i32_w]
 rfl
 }
 refine pure_ (i := 39) (N := some 73) (v := ?_) (a' := ?_) #[true, true, true, true, true, true, true, true, true, true, true, true, true, true, true, true, true, true, true, true, true, true, true, true, true, true, true, true, true, true, true, true, true, true, true, true, true, true, true, true, false, false] rfl rfl (any_of HT_.out (by kernel_rfl)) (fun _ _ _ h => h) (Or.inl ⟨by rfl, ?_⟩) ?_ ?_
 rotate_left
 {
 intro w'
 go_simp
 with_reducible rfl
 }
 rotate_left
 {
 simp only [Act.put, List.setIfInBounds_toArray, List.set_cons_zero, List.set_cons_succ, i64_w, i32_w]
 rfl
 }
 exact norm_ (by first | (simp only [putAll, Act.put, List.setIfInBounds_toArray, List.set_cons_zero, List.set_cons_succ]; done) | (simp only [putAll, Act.put, List.setIfInBounds_toArray, List.set_cons_zero, List.set_cons_succ]; rfl)) (hJ6_26_29_33_38 (.slice Ao2012 t140.length co2012, .slice Ao2011 t144.length co2011) _ ⟨hHeld, (Kd.R_mono (Rh HO142) (fun _ hk => hk.2)), (Kd.R_mono (Rh HO146) (fun _ hk => hk.2)), (Bh BK123), wB⟩)
 }
 {
 skip
 refine box_step ?hg (N := 8) ?hd (cs := #[.int .i64 0, .int .i64 0, .bool false, .bool false, .int .i64 0, .int .i64 0, .int .i64 0, .int .i64 0, .int .i64 0, .slice none 0 0, .slice none 0 0]) (t := 51) ?hr ?_; (case hd => rfl); (case hg => rfl); (case hr => first | (go_simp; done) | (go_simp; rfl))
 intro gb147 hg w2010 hbox hb
 have n0_ := Aside0.mk (Kd.R_below (Rh HO142) hb)
 have n1_ := Aside0.mk (blk_below (Bh BK123) hb)
 have n2_ := Aside0.mk (below_step wB hb)
 have n3_ := Aside0.mk (hbox)
 have n4_ := Aside0.mk ((by rw [hg]; exact (below_size wB) : w.heap.size ≤ gb147))
 have n5_ := Aside0.mk ((by rw [hg]; exact (below_size wB) : w.heap.size ≤ gb147))
 have n6_ := Aside0.mk ((by rw [hg]; exact Nat.ne_of_lt (blk_lt (Bh BK123)) : gb123 ≠ gb147))
 have n7_ := Aside0.mk ((by rw [hg]; exact Nat.ne_of_gt (blk_lt (Bh BK123)) : gb147 ≠ gb123))
 clear HO142
 clear BK123
 clear HB
 have HO142 := n0_
 have BK123 := n1_
 have HB := n2_
 have BK147 := n3_
 have GW147 := n4_
 have GE147 := n5_
 have NB123_147 := n6_
 have NB147_123 := n7_
 clear n0_ n1_ n2_ n3_ n4_ n5_ n6_ n7_
 clear hb hbox hg
 refine hK.out _ _ ⟨((HB.out.cell (World.block_lt_of_cell? w _ hw130_0)).trans hw130_0), ((HB.out.cell (World.block_lt_of_cell? w _ hw133_0)).trans hw133_0), ((HB.out.cell (World.block_lt_of_cell? w _ hw134_0)).trans hw134_0)⟩ (fun hHeld => ?_)
 clear hK K
 refine norm_ (a' := ?_) ?_ ?_
 rotate_left
 {
 show Act.put _ (some 8) _ = _
 simp only [Act.put, List.setIfInBounds_toArray, List.set_cons_zero, List.set_cons_succ, i64_w, i32_w]
 rfl
 }
 exact norm_ (by first | (simp only [putAll, Act.put, List.setIfInBounds_toArray, List.set_cons_zero, List.set_cons_succ]; done) | (simp only [putAll, Act.put, List.setIfInBounds_toArray, List.set_cons_zero, List.set_cons_succ]; rfl)) (hJ6_26_29_33_40 (v141, gb147) _ ⟨hHeld, (Rh HO142), (Bh BK123), (Bh BK147), GW147.out, GE147.out, NB123_147.out, NB147_123.out, wB⟩)
 }
 }
 }
 {
 skip
 rintro ⟨v141, gb147⟩ w2010 ⟨hS_, h0_, h1_, h2_, h3_, h4_, h5_, h6_, h7_⟩
 have n0_ : Aside0 (Kd.R (Kd.int .u8) 5 w2010 w.heap.size (fun _ => True) v141 t140) := ⟨h0_⟩
 have n1_ : Aside0 (w2010.heap[gb123]? = some (.cells #[.int .i64 0, .int .i64 0, .bool false, .bool false, .int .i64 0, .int .i64 0, .int .i64 0, .int .i64 0, .int .i64 0, .slice none 0 0, .slice none 0 0] 51 (0, 0))) := ⟨h1_⟩
 have n2_ : Aside0 (w2010.heap[gb147]? = some (.cells #[.int .i64 0, .int .i64 0, .bool false, .bool false, .int .i64 0, .int .i64 0, .int .i64 0, .int .i64 0, .int .i64 0, .slice none 0 0, .slice none 0 0] 51 (0, 0))) := ⟨h2_⟩
 have n3_ : Aside0 (w.heap.size ≤ gb147) := ⟨h3_⟩
 have n4_ : Aside0 (w.heap.size ≤ gb147) := ⟨h4_⟩
 have n5_ : Aside0 (gb123 ≠ gb147) := ⟨h5_⟩
 have n6_ : Aside0 (gb147 ≠ gb123) := ⟨h6_⟩
 have n7_ : Aside0 (Below w.heap.size w w2010) := ⟨h7_⟩
 clear BK123
 clear HB
 clear h0_ h1_ h2_ h3_ h4_ h5_ h6_ h7_
 have HO142 := n0_
 have BK123 := n1_
 have BK147 := n2_
 have GW147 := n3_
 have GE147 := n4_
 have NB123_147 := n5_
 have NB147_123 := n6_
 have HB := n7_
 clear n0_ n1_ n2_ n3_ n4_ n5_ n6_ n7_
 have hHeld : w2010.cell? ⟨ad130.block, ad130.off + 1, none⟩ = some (.int .u8 (rd l0 1)) ∧ w2010.cell? ⟨ad130.block, ad130.off + 8, none⟩ = some (.int .u8 (rd l0 8)) ∧ w2010.cell? ⟨ad130.block, ad130.off + 9, none⟩ = some (.int .u8 (rd l0 9)) := hS_
 refine norm_ (a' := ?_) ?_ ?_
 rotate_left
 {
 simp only [putAll, Act.put, List.setIfInBounds_toArray, List.set_cons_zero, List.set_cons_succ]
 rfl
 }
 refine one_ (i := 38) (N := some 72) #[true, true, true, true, true, true, true, true, true, true, true, true, true, true, true, true, true, true, true, true, true, true, true, true, true, true, true, true, true, true, true, true, true, true, true, true, true, true, true, false, true, false] rfl rfl (one_of HT_.out (by kernel_rfl)) (by decide) (fun K hK => ?_)
 refine goes_ Try.func79 (by kernel_rfl) rfl #[.slice A2007 ((l0.take (t127 : Int).toNat).drop (t124 : Int).toNat).length (c0 - t124.toNat)] (by rfl) rfl rfl (by (try simp only [List.map_toArray, List.map_cons, List.map_nil]); first | done | (rw [show ((l0.take (t127 : Int).toNat).drop (t124 : Int).toNat).length = (t127.toNat - t124.toNat) from (by rw [List.length_drop, List.length_take]; have h_ : (t127 : Int) ≤ (l0.length : Int) := of_decide_eq_true (by first | (with_reducible assumption) | assumption); omega)] <;> rfl) | rfl | (simp only [List.length_drop, List.length_take]; rfl)) ?_
 with_reducible refine (spec_l01Copy.calls kj6 _ _ ((l0.take (t127 : Int).toNat).drop (t124 : Int).toNat) t144 _ ?side1 ?side2 A1026.out).mono ?_
 (case side1 => exact Kd.C_below HR143.out wB)
 (case side2 => exact HC143.out)
 rintro e w2011 ⟨v145, rfl, ho0, hb⟩
 refine ⟨_, rfl, ?_⟩
 have n0_ := Aside0.mk (Kd.R_elder' (Rh HO142) (Kd.R_base ho0) hb)
 have n1_ := Aside0.mk (Kd.R_lower (Kd.R_new' ho0 (Kd.R_lt (Rh HO142))) (below_size wB))
 have n2_ := Aside0.mk (blk_below (Bh BK123) hb)
 have n3_ := Aside0.mk (blk_below (Bh BK147) hb)
 have n4_ := Aside0.mk (below_step wB hb)
 clear HO142
 clear BK123
 clear BK147
 clear HB
 have HO142 := n0_
 have HO146 := n1_
 have BK123 := n2_
 have BK147 := n3_
 have HB := n4_
 clear n0_ n1_ n2_ n3_ n4_
 (try clear hb)
 (try clear hb2)
 (try clear hk)
 (try clear hi)
 (try clear ho0)
 obtain ⟨Ao2012, co2012, eo2012⟩ := Kd.R_slice HO146.out
 (first | subst eo2012 | (injection eo2012 with f1_ f2_ f3_; have f4_ := f1_.symm; have f5_ := f3_.symm; clear f1_ f2_ f3_; subst f4_; subst f5_))
 obtain ⟨Ao2013, co2013, eo2013⟩ := Kd.R_slice HO142.out
 (first | subst eo2013 | (injection eo2013 with f1_ f2_ f3_; have f4_ := f1_.symm; have f5_ := f3_.symm; clear f1_ f2_ f3_; subst f4_; subst f5_))
 refine hK.out _ _ ⟨((HB.out.cell (World.block_lt_of_cell? w _ hw130_0)).trans hw130_0), ((HB.out.cell (World.block_lt_of_cell? w _ hw133_0)).trans hw133_0), ((HB.out.cell (World.block_lt_of_cell? w _ hw134_0)).trans hw134_0)⟩ (fun hHeld => ?_)
 clear hK K
 refine norm_ (a' := ?_) ?_ ?_
 rotate_left
 {
 show Act.put _ (some 72) _ = _
 simp only [Act.put, List.setIfInBounds_toArray, List.set_cons_zero, List.set_cons_succ, i64_w, i32_w]
 rfl
 }
 refine pure_ (i := 39) (N := some 73) (v := ?_) (a' := ?_) #[true, true, true, true, true, true, true, true, true, true, true, true, true, true, true, true, true, true, true, true, true, true, true, true, true, true, true, true, true, true, true, true, true, true, true, true, true, true, true, true, true, false] rfl rfl (any_of HT_.out (by kernel_rfl)) (fun _ _ _ h => h) (Or.inl ⟨by rfl, ?_⟩) ?_ ?_
 rotate_left
 {
 intro w'
 go_simp
 with_reducible rfl
 }
 rotate_left
 {
 simp only [Act.put, List.setIfInBounds_toArray, List.set_cons_zero, List.set_cons_succ, i64_w, i32_w]
 rfl
 }
 exact norm_ (by first | (simp only [putAll, Act.put, List.setIfInBounds_toArray, List.set_cons_zero, List.set_cons_succ]; done) | (simp only [putAll, Act.put, List.setIfInBounds_toArray, List.set_cons_zero, List.set_cons_succ]; rfl)) (hJ6_26_29_33_38_40 (.slice Ao2013 t140.length co2013, .slice Ao2012 t144.length co2012, gb147) _ ⟨hHeld, (Kd.R_mono (Rh HO142) (fun _ hk => hk.2)), (Kd.R_mono (Rh HO146) (fun _ hk => hk.2)), (Bh BK123), (Bh BK147), GW147.out, GE147.out, NB123_147.out, NB147_123.out, wB⟩)
 }
 }
 {
 skip
 rintro ⟨v141, v145⟩ w2012 ⟨hS_, h0_, h1_, h2_, h3_⟩
 have n0_ : Aside0 (Kd.R (Kd.int .u8) 5 w2012 w.heap.size (fun k_ => some k_ ≠ (v145 : Value).ownBlock) v141 t140) := ⟨h0_⟩
 have n1_ : Aside0 (Kd.R (Kd.int .u8) 5 w2012 w.heap.size (fun k_ => some k_ ≠ (v141 : Value).ownBlock) v145 t144) := ⟨h1_⟩
 have n2_ : Aside0 (w2012.heap[gb123]? = some (.cells #[.int .i64 0, .int .i64 0, .bool false, .bool false, .int .i64 0, .int .i64 0, .int .i64 0, .int .i64 0, .int .i64 0, .slice none 0 0, .slice none 0 0] 51 (0, 0))) := ⟨h2_⟩
 have n3_ : Aside0 (Below w.heap.size w w2012) := ⟨h3_⟩
 clear BK123
 clear HB
 clear h0_ h1_ h2_ h3_
 have HO142 := n0_
 have HO146 := n1_
 have BK123 := n2_
 have HB := n3_
 clear n0_ n1_ n2_ n3_
 have hHeld : w2012.cell? ⟨ad130.block, ad130.off + 1, none⟩ = some (.int .u8 (rd l0 1)) ∧ w2012.cell? ⟨ad130.block, ad130.off + 8, none⟩ = some (.int .u8 (rd l0 8)) ∧ w2012.cell? ⟨ad130.block, ad130.off + 9, none⟩ = some (.int .u8 (rd l0 9)) := hS_
 obtain ⟨Ao2013, co2013, eo2013⟩ := Kd.R_slice HO146.out
 (first | subst eo2013 | (injection eo2013 with f1_ f2_ f3_; have f4_ := f1_.symm; have f5_ := f3_.symm; clear f1_ f2_ f3_; subst f4_; subst f5_))
 obtain ⟨Ao2014, co2014, eo2014⟩ := Kd.R_slice HO142.out
 (first | subst eo2014 | (injection eo2014 with f1_ f2_ f3_; have f4_ := f1_.symm; have f5_ := f3_.symm; clear f1_ f2_ f3_; subst f4_; subst f5_))
 refine norm_ (a' := ?_) ?_ ?_
 rotate_left
 {
 simp only [putAll, Act.put, List.setIfInBounds_toArray, List.set_cons_zero, List.set_cons_succ]
 rfl
 }
 refine one_ (i := 40) (N := some 8) #[true, true, true, true, true, true, true, true, true, true, true, true, true, true, true, true, true, true, true, true, true, true, true, true, true, true, true, true, true, true, true, true, true, true, true, true, true, true, true, true, true, false] rfl rfl (one_of HT_.out (by kernel_rfl)) (by decide) (fun K hK => ?_)
 refine box_step ?hg (N := 8) ?hd (cs := #[.int .i64 0, .int .i64 0, .bool false, .bool false, .int .i64 0, .int .i64 0, .int .i64 0, .int .i64 0, .int .i64 0, .slice none 0 0, .slice none 0 0]) (t := 51) ?hr ?_; (case hd => rfl); (case hg => rfl); (case hr => first | (go_simp; done) | (go_simp; rfl))
 intro gb147 hg w2015 hbox hb
 have n0_ := Aside0.mk (Kd.R_below (Rh HO142) hb)
 have n1_ := Aside0.mk (Kd.R_below (Rh HO146) hb)
 have n2_ := Aside0.mk (blk_below (Bh BK123) hb)
 have n3_ := Aside0.mk (below_step wB hb)
 have n4_ := Aside0.mk (hbox)
 have n5_ := Aside0.mk ((by rw [hg]; exact (below_size wB) : w.heap.size ≤ gb147))
 have n6_ := Aside0.mk ((by rw [hg]; exact (below_size wB) : w.heap.size ≤ gb147))
 have n7_ := Aside0.mk ((by rw [hg]; exact Nat.ne_of_lt (blk_lt (Bh BK123)) : gb123 ≠ gb147))
 have n8_ := Aside0.mk ((by rw [hg]; exact Nat.ne_of_gt (blk_lt (Bh BK123)) : gb147 ≠ gb123))
 clear HO142
 clear HO146
 clear BK123
 clear HB
 have HO142 := n0_
 have HO146 := n1_
 have BK123 := n2_
 have HB := n3_
 have BK147 := n4_
 have GW147 := n5_
 have GE147 := n6_
 have NB123_147 := n7_
 have NB147_123 := n8_
 clear n0_ n1_ n2_ n3_ n4_ n5_ n6_ n7_ n8_
 clear hb hbox hg
 refine hK.out _ _ ⟨((HB.out.cell (World.block_lt_of_cell? w _ hw130_0)).trans hw130_0), ((HB.out.cell (World.block_lt_of_cell? w _ hw133_0)).trans hw133_0), ((HB.out.cell (World.block_lt_of_cell? w _ hw134_0)).trans hw134_0)⟩ (fun hHeld => ?_)
 clear hK K
 refine norm_ (a' := ?_) ?_ ?_
 rotate_left
 {
 show Act.put _ (some 8) _ = _
 simp only [Act.put, List.setIfInBounds_toArray, List.set_cons_zero, List.set_cons_succ, i64_w, i32_w]
 rfl
 }
 exact norm_ (by first | (simp only [putAll, Act.put, List.setIfInBounds_toArray, List.set_cons_zero, List.set_cons_succ]; done) | (simp only [putAll, Act.put, List.setIfInBounds_toArray, List.set_cons_zero, List.set_cons_succ]; rfl)) (hJ6_26_29_33_38_40 (.slice Ao2014 t140.length co2014, .slice Ao2013 t144.length co2013, gb147) _ ⟨hHeld, (Rh HO142), (Rh HO146), (Bh BK123), (Bh BK147), GW147.out, GE147.out, NB123_147.out, NB147_123.out, wB⟩)
 }
 }
 rintro ⟨v141, v145, gb147⟩ w2013 ⟨hS_, h0_, h1_, h2_, h3_, h4_, h5_, h6_, h7_, h8_⟩
 have n0_ : Aside0 (Kd.R (Kd.int .u8) 5 w2013 w.heap.size (fun k_ => some k_ ≠ (v145 : Value).ownBlock) v141 t140) := ⟨h0_⟩
 have n1_ : Aside0 (Kd.R (Kd.int .u8) 5 w2013 w.heap.size (fun k_ => some k_ ≠ (v141 : Value).ownBlock) v145 t144) := ⟨h1_⟩
 have n2_ : Aside0 (w2013.heap[gb123]? = some (.cells #[.int .i64 0, .int .i64 0, .bool false, .bool false, .int .i64 0, .int .i64 0, .int .i64 0, .int .i64 0, .int .i64 0, .slice none 0 0, .slice none 0 0] 51 (0, 0))) := ⟨h2_⟩
 have n3_ : Aside0 (w2013.heap[gb147]? = some (.cells #[.int .i64 0, .int .i64 0, .bool false, .bool false, .int .i64 0, .int .i64 0, .int .i64 0, .int .i64 0, .int .i64 0, .slice none 0 0, .slice none 0 0] 51 (0, 0))) := ⟨h3_⟩
 have n4_ : Aside0 (w.heap.size ≤ gb147) := ⟨h4_⟩
 have n5_ : Aside0 (w.heap.size ≤ gb147) := ⟨h5_⟩
 have n6_ : Aside0 (gb123 ≠ gb147) := ⟨h6_⟩
 have n7_ : Aside0 (gb147 ≠ gb123) := ⟨h7_⟩
 have n8_ : Aside0 (Below w.heap.size w w2013) := ⟨h8_⟩
 clear BK123
 clear HB
 clear h0_ h1_ h2_ h3_ h4_ h5_ h6_ h7_ h8_
 have HO142 := n0_
 have HO146 := n1_
 have BK123 := n2_
 have BK147 := n3_
 have GW147 := n4_
 have GE147 := n5_
 have NB123_147 := n6_
 have NB147_123 := n7_
 have HB := n8_
 clear n0_ n1_ n2_ n3_ n4_ n5_ n6_ n7_ n8_
 have hHeld : w2013.cell? ⟨ad130.block, ad130.off + 1, none⟩ = some (.int .u8 (rd l0 1)) ∧ w2013.cell? ⟨ad130.block, ad130.off + 8, none⟩ = some (.int .u8 (rd l0 8)) ∧ w2013.cell? ⟨ad130.block, ad130.off + 9, none⟩ = some (.int .u8 (rd l0 9)) := hS_
 obtain ⟨Ao2014, co2014, eo2014⟩ := Kd.R_slice HO146.out
 (first | subst eo2014 | (injection eo2014 with f1_ f2_ f3_; have f4_ := f1_.symm; have f5_ := f3_.symm; clear f1_ f2_ f3_; subst f4_; subst f5_))
 obtain ⟨Ao2015, co2015, eo2015⟩ := Kd.R_slice HO142.out
 (first | subst eo2015 | (injection eo2015 with f1_ f2_ f3_; have f4_ := f1_.symm; have f5_ := f3_.symm; clear f1_ f2_ f3_; subst f4_; subst f5_))
 refine norm_ (a' := ?_) ?_ ?_
 rotate_left
 {
 simp only [putAll, Act.put, List.setIfInBounds_toArray, List.set_cons_zero, List.set_cons_succ]
 rfl
 }
 refine one_ (i := 41) (N := none) #[true, true, true, true, true, true, true, true, true, true, true, true, true, true, true, true, true, true, true, true, true, true, true, true, true, true, true, true, true, true, true, true, true, true, true, true, true, true, true, true, true, true] rfl rfl (one_of HT_.out (by kernel_rfl)) (by decide) (fun K hK => ?_)
 have hs2016 : w2013.cell? ⟨gb147, 0, none⟩ = some (.int .i64 0) := (blk_cell BK147.out 0).trans rfl
 have hfs2016 := blk_frozen BK147.out 0
 have hns2016_0 := NB123_147.out
 have hms2016_0 := NB147_123.out
 have hs2017 : w2013.cell? ⟨gb147, 1, none⟩ = some (.int .i64 0) := (blk_cell BK147.out 1).trans rfl
 have hfs2017 := blk_frozen BK147.out 1
 have hns2017_0 := NB123_147.out
 have hms2017_0 := NB147_123.out
 have hs2018 : w2013.cell? ⟨gb147, 2, none⟩ = some (.bool false) := (blk_cell BK147.out 2).trans rfl
 have hfs2018 := blk_frozen BK147.out 2
 have hns2018_0 := NB123_147.out
 have hms2018_0 := NB147_123.out
 have hs2019 : w2013.cell? ⟨gb147, 3, none⟩ = some (.bool false) := (blk_cell BK147.out 3).trans rfl
 have hfs2019 := blk_frozen BK147.out 3
 have hns2019_0 := NB123_147.out
 have hms2019_0 := NB147_123.out
 have hs2020 : w2013.cell? ⟨gb147, 4, none⟩ = some (.int .i64 0) := (blk_cell BK147.out 4).trans rfl
 have hfs2020 := blk_frozen BK147.out 4
 have hns2020_0 := NB123_147.out
 have hms2020_0 := NB147_123.out
 have hs2021 : w2013.cell? ⟨gb147, 5, none⟩ = some (.int .i64 0) := (blk_cell BK147.out 5).trans rfl
 have hfs2021 := blk_frozen BK147.out 5
 have hns2021_0 := NB123_147.out
 have hms2021_0 := NB147_123.out
 have hs2022 : w2013.cell? ⟨gb147, 6, none⟩ = some (.int .i64 0) := (blk_cell BK147.out 6).trans rfl
 have hfs2022 := blk_frozen BK147.out 6
 have hns2022_0 := NB123_147.out
 have hms2022_0 := NB147_123.out
 have hs2023 : w2013.cell? ⟨gb147, 7, none⟩ = some (.int .i64 0) := (blk_cell BK147.out 7).trans rfl
 have hfs2023 := blk_frozen BK147.out 7
 have hns2023_0 := NB123_147.out
 have hms2023_0 := NB147_123.out
 have hs2024 : w2013.cell? ⟨gb147, 8, none⟩ = some (.int .i64 0) := (blk_cell BK147.out 8).trans rfl
 have hfs2024 := blk_frozen BK147.out 8
 have hns2024_0 := NB123_147.out
 have hms2024_0 := NB147_123.out
 have hs2025 : w2013.cell? ⟨gb147, 9, none⟩ = some (.slice none 0 0) := (blk_cell BK147.out 9).trans rfl
 have hfs2025 := blk_frozen BK147.out 9
 have hns2025_0 := NB123_147.out
 have hms2025_0 := NB147_123.out
 have hs2026 : w2013.cell? ⟨gb147, 10, none⟩ = some (.slice none 0 0) := (blk_cell BK147.out 10).trans rfl
 have hfs2026 := blk_frozen BK147.out 10
 have hns2026_0 := NB123_147.out
 have hms2026_0 := NB147_123.out
 refine skip_ (w1 := ?_) (by rfl) rfl ?_ ?_
 rotate_left
 {
 go_simp
 rfl
 }
 refine hK.out _ _ ⟨((cell_far (p := ⟨gb147, _, none⟩) (by first | exact Nat.ne_of_lt (Nat.lt_of_lt_of_le (by have := World.block_lt_of_cell? _ _ hw130_0; first | rwa [add_block] at this | exact this) GW147.out) | (rw [add_block]; exact Nat.ne_of_lt (Nat.lt_of_lt_of_le (by have := World.block_lt_of_cell? _ _ hw130_0; first | rwa [add_block] at this | exact this) GW147.out)) | (show (Addr.add _ _).block ≠ _; rw [add_block]; exact Nat.ne_of_lt (Nat.lt_of_lt_of_le (by have := World.block_lt_of_cell? _ _ hw130_0; first | rwa [add_block] at this | exact this) GW147.out)) | (dsimp only; exact Nat.ne_of_lt (Nat.lt_of_lt_of_le (by have := World.block_lt_of_cell? _ _ hw130_0; first | rwa [add_block] at this | exact this) GW147.out))) _).trans (((cell_far (p := ⟨gb147, _, none⟩) (by first | exact Nat.ne_of_lt (Nat.lt_of_lt_of_le (by have := World.block_lt_of_cell? _ _ hw130_0; first | rwa [add_block] at this | exact this) GW147.out) | (rw [add_block]; exact Nat.ne_of_lt (Nat.lt_of_lt_of_le (by have := World.block_lt_of_cell? _ _ hw130_0; first | rwa [add_block] at this | exact this) GW147.out)) | (show (Addr.add _ _).block ≠ _; rw [add_block]; exact Nat.ne_of_lt (Nat.lt_of_lt_of_le (by have := World.block_lt_of_cell? _ _ hw130_0; first | rwa [add_block] at this | exact this) GW147.out)) | (dsimp only; exact Nat.ne_of_lt (Nat.lt_of_lt_of_le (by have := World.block_lt_of_cell? _ _ hw130_0; first | rwa [add_block] at this | exact this) GW147.out))) _).trans (((cell_far (p := ⟨gb147, _, none⟩) (by first | exact Nat.ne_of_lt (Nat.lt_of_lt_of_le (by have := World.block_lt_of_cell? _ _ hw130_0; first | rwa [add_block] at this | exact this) GW147.out) | (rw [add_block]; exact Nat.ne_of_lt (Nat.lt_of_lt_of_le (by have := World.block_lt_of_cell? _ _ hw130_0; first | rwa [add_block] at this | exact this) GW147.out)) | (show (Addr.add _ _).block ≠ _; rw [add_block]; exact Nat.ne_of_lt (Nat.lt_of_lt_of_le (by have := World.block_lt_of_cell? _ _ hw130_0; first | rwa [add_block] at this | exact this) GW147.out)) | (dsimp only; exact Nat.ne_of_lt (Nat.lt_of_lt_of_le (by have := World.block_lt_of_cell? _ _ hw130_0; first | rwa [add_block] at this | exact this) GW147.out))) _).trans (((cell_far (p := ⟨gb147, _, none⟩) (by first | exact Nat.ne_of_lt (Nat.lt_of_lt_of_le (by have := World.block_lt_of_cell? _ _ hw130_0; first | rwa [add_block] at this | exact this) GW147.out) | (rw [add_block]; exact Nat.ne_of_lt (Nat.lt_of_lt_of_le (by have := World.block_lt_of_cell? _ _ hw130_0; first | rwa [add_block] at this | exact this) GW147.out)) | (show (Addr.add _ _).block ≠ _; rw [add_block]; exact Nat.ne_of_lt (Nat.lt_of_lt_of_le (by have := World.block_lt_of_cell? _ _ hw130_0; first | rwa [add_block] at this | exact this) GW147.out)) | (dsimp only; exact Nat.ne_of_lt (Nat.lt_of_lt_of_le (by have := World.block_lt_of_cell? _ _ hw130_0; first | rwa [add_block] at this | exact this) GW147.out))) _).trans (((cell_far (p := ⟨gb147, _, none⟩) (by first | exact Nat.ne_of_lt (Nat.lt_of_lt_of_le (by have := World.block_lt_of_cell? _ _ hw130_0; first | rwa [add_block] at this | exact this) GW147.out) | (rw [add_block]; exact Nat.ne_of_lt (Nat.lt_of_lt_of_le (by have := World.block_lt_of_cell? _ _ hw130_0; first | rwa [add_block] at this | exact this) GW147.out)) | (show (Addr.add _ _).block ≠ _; rw [add_block]; exact Nat.ne_of_lt (Nat.lt_of_lt_of_le (by have := World.block_lt_of_cell? _ _ hw130_0; first | rwa [add_block] at this | exact this) GW147.out)) | (dsimp only; exact Nat.ne_of_lt (Nat.lt_of_lt_of_le (by have := World.block_lt_of_cell? _ _ hw130_0; first | rwa [add_block] at this | exact this) GW147.out))) _).trans (((cell_far (p := ⟨gb147, _, none⟩) (by first | exact Nat.ne_of_lt (Nat.lt_of_lt_of_le (by have := World.block_lt_of_cell? _ _ hw130_0; first | rwa [add_block] at this | exact this) GW147.out) | (rw [add_block]; exact Nat.ne_of_lt (Nat.lt_of_lt_of_le (by have := World.block_lt_of_cell? _ _ hw130_0; first | rwa [add_block] at this | exact this) GW147.out)) | (show (Addr.add _ _).block ≠ _; rw [add_block]; exact Nat.ne_of_lt (Nat.lt_of_lt_of_le (by have := World.block_lt_of_cell? _ _ hw130_0; first | rwa [add_block] at this | exact this) GW147.out)) | (dsimp only; exact Nat.ne_of_lt (Nat.lt_of_lt_of_le (by have := World.block_lt_of_cell? _ _ hw130_0; first | rwa [add_block] at this | exact this) GW147.out))) _).trans (((cell_far (p := ⟨gb147, _, none⟩) (by first | exact Nat.ne_of_lt (Nat.lt_of_lt_of_le (by have := World.block_lt_of_cell? _ _ hw130_0; first | rwa [add_block] at this | exact this) GW147.out) | (rw [add_block]; exact Nat.ne_of_lt (Nat.lt_of_lt_of_le (by have := World.block_lt_of_cell? _ _ hw130_0; first | rwa [add_block] at this | exact this) GW147.out)) | (show (Addr.add _ _).block ≠ _; rw [add_block]; exact Nat.ne_of_lt (Nat.lt_of_lt_of_le (by have := World.block_lt_of_cell? _ _ hw130_0; first | rwa [add_block] at this | exact this) GW147.out)) | (dsimp only; exact Nat.ne_of_lt (Nat.lt_of_lt_of_le (by have := World.block_lt_of_cell? _ _ hw130_0; first | rwa [add_block] at this | exact this) GW147.out))) _).trans (((cell_far (p := ⟨gb147, _, none⟩) (by first | exact Nat.ne_of_lt (Nat.lt_of_lt_of_le (by have := World.block_lt_of_cell? _ _ hw130_0; first | rwa [add_block] at this | exact this) GW147.out) | (rw [add_block]; exact Nat.ne_of_lt (Nat.lt_of_lt_of_le (by have := World.block_lt_of_cell? _ _ hw130_0; first | rwa [add_block] at this | exact this) GW147.out)) | (show (Addr.add _ _).block ≠ _; rw [add_block]; exact Nat.ne_of_lt (Nat.lt_of_lt_of_le (by have := World.block_lt_of_cell? _ _ hw130_0; first | rwa [add_block] at this | exact this) GW147.out)) | (dsimp only; exact Nat.ne_of_lt (Nat.lt_of_lt_of_le (by have := World.block_lt_of_cell? _ _ hw130_0; first | rwa [add_block] at this | exact this) GW147.out))) _).trans (((cell_far (p := ⟨gb147, _, none⟩) (by first | exact Nat.ne_of_lt (Nat.lt_of_lt_of_le (by have := World.block_lt_of_cell? _ _ hw130_0; first | rwa [add_block] at this | exact this) GW147.out) | (rw [add_block]; exact Nat.ne_of_lt (Nat.lt_of_lt_of_le (by have := World.block_lt_of_cell? _ _ hw130_0; first | rwa [add_block] at this | exact this) GW147.out)) | (show (Addr.add _ _).block ≠ _; rw [add_block]; exact Nat.ne_of_lt (Nat.lt_of_lt_of_le (by have := World.block_lt_of_cell? _ _ hw130_0; first | rwa [add_block] at this | exact this) GW147.out)) | (dsimp only; exact Nat.ne_of_lt (Nat.lt_of_lt_of_le (by have := World.block_lt_of_cell? _ _ hw130_0; first | rwa [add_block] at this | exact this) GW147.out))) _).trans (((cell_far (p := ⟨gb147, _, none⟩) (by first | exact Nat.ne_of_lt (Nat.lt_of_lt_of_le (by have := World.block_lt_of_cell? _ _ hw130_0; first | rwa [add_block] at this | exact this) GW147.out) | (rw [add_block]; exact Nat.ne_of_lt (Nat.lt_of_lt_of_le (by have := World.block_lt_of_cell? _ _ hw130_0; first | rwa [add_block] at this | exact this) GW147.out)) | (show (Addr.add _ _).block ≠ _; rw [add_block]; exact Nat.ne_of_lt (Nat.lt_of_lt_of_le (by have := World.block_lt_of_cell? _ _ hw130_0; first | rwa [add_block] at this | exact this) GW147.out)) | (dsimp only; exact Nat.ne_of_lt (Nat.lt_of_lt_of_le (by have := World.block_lt_of_cell? _ _ hw130_0; first | rwa [add_block] at this | exact this) GW147.out))) _).trans (((cell_far (p := ⟨gb147, _, none⟩) (by first | exact Nat.ne_of_lt (Nat.lt_of_lt_of_le (by have := World.block_lt_of_cell? _ _ hw130_0; first | rwa [add_block] at this | exact this) GW147.out) | (rw [add_block]; exact Nat.ne_of_lt (Nat.lt_of_lt_of_le (by have := World.block_lt_of_cell? _ _ hw130_0; first | rwa [add_block] at this | exact this) GW147.out)) | (show (Addr.add _ _).block ≠ _; rw [add_block]; exact Nat.ne_of_lt (Nat.lt_of_lt_of_le (by have := World.block_lt_of_cell? _ _ hw130_0; first | rwa [add_block] at this | exact this) GW147.out)) | (dsimp only; exact Nat.ne_of_lt (Nat.lt_of_lt_of_le (by have := World.block_lt_of_cell? _ _ hw130_0; first | rwa [add_block] at this | exact this) GW147.out))) _).trans (hHeld.1)))))))))))))))))))))), ((cell_far (p := ⟨gb147, _, none⟩) (by first | exact Nat.ne_of_lt (Nat.lt_of_lt_of_le (by have := World.block_lt_of_cell? _ _ hw133_0; first | rwa [add_block] at this | exact this) GW147.out) | (rw [add_block]; exact Nat.ne_of_lt (Nat.lt_of_lt_of_le (by have := World.block_lt_of_cell? _ _ hw133_0; first | rwa [add_block] at this | exact this) GW147.out)) | (show (Addr.add _ _).block ≠ _; rw [add_block]; exact Nat.ne_of_lt (Nat.lt_of_lt_of_le (by have := World.block_lt_of_cell? _ _ hw133_0; first | rwa [add_block] at this | exact this) GW147.out)) | (dsimp only; exact Nat.ne_of_lt (Nat.lt_of_lt_of_le (by have := World.block_lt_of_cell? _ _ hw133_0; first | rwa [add_block] at this | exact this) GW147.out))) _).trans (((cell_far (p := ⟨gb147, _, none⟩) (by first | exact Nat.ne_of_lt (Nat.lt_of_lt_of_le (by have := World.block_lt_of_cell? _ _ hw133_0; first | rwa [add_block] at this | exact this) GW147.out) | (rw [add_block]; exact Nat.ne_of_lt (Nat.lt_of_lt_of_le (by have := World.block_lt_of_cell? _ _ hw133_0; first | rwa [add_block] at this | exact this) GW147.out)) | (show (Addr.add _ _).block ≠ _; rw [add_block]; exact Nat.ne_of_lt (Nat.lt_of_lt_of_le (by have := World.block_lt_of_cell? _ _ hw133_0; first | rwa [add_block] at this | exact this) GW147.out)) | (dsimp only; exact Nat.ne_of_lt (Nat.lt_of_lt_of_le (by have := World.block_lt_of_cell? _ _ hw133_0; first | rwa [add_block] at this | exact this) GW147.out))) _).trans (((cell_far (p := ⟨gb147, _, none⟩) (by first | exact Nat.ne_of_lt (Nat.lt_of_lt_of_le (by have := World.block_lt_of_cell? _ _ hw133_0; first | rwa [add_block] at this | exact this) GW147.out) | (rw [add_block]; exact Nat.ne_of_lt (Nat.lt_of_lt_of_le (by have := World.block_lt_of_cell? _ _ hw133_0; first | rwa [add_block] at this | exact this) GW147.out)) | (show (Addr.add _ _).block ≠ _; rw [add_block]; exact Nat.ne_of_lt (Nat.lt_of_lt_of_le (by have := World.block_lt_of_cell? _ _ hw133_0; first | rwa [add_block] at this | exact this) GW147.out)) | (dsimp only; exact Nat.ne_of_lt (Nat.lt_of_lt_of_le (by have := World.block_lt_of_cell? _ _ hw133_0; first | rwa [add_block] at this | exact this) GW147.out))) _).trans (((cell_far (p := ⟨gb147, _, none⟩) (by first | exact Nat.ne_of_lt (Nat.lt_of_lt_of_le (by have := World.block_lt_of_cell? _ _ hw133_0; first | rwa [add_block] at this | exact this) GW147.out) | (rw [add_block]; exact Nat.ne_of_lt (Nat.lt_of_lt_of_le (by have := World.block_lt_of_cell? _ _ hw133_0; first | rwa [add_block] at this | exact this) GW147.out)) | (show (Addr.add _ _).block ≠ _; rw [add_block]; exact Nat.ne_of_lt (Nat.lt_of_lt_of_le (by have := World.block_lt_of_cell? _ _ hw133_0; first | rwa [add_block] at this | exact this) GW147.out)) | (dsimp only; exact Nat.ne_of_lt (Nat.lt_of_lt_of_le (by have := World.block_lt_of_cell? _ _ hw133_0; first | rwa [add_block] at this | exact this) GW147.out))) _).trans (((cell_far (p := ⟨gb147, _, none⟩) (by first | exact Nat.ne_of_lt (Nat.lt_of_lt_of_le (by have := World.block_lt_of_cell? _ _ hw133_0; first | rwa [add_block] at this | exact this) GW147.out) | (rw [add_block]; exact Nat.ne_of_lt (Nat.lt_of_lt_of_le (by have := World.block_lt_of_cell? _ _ hw133_0; first | rwa [add_block] at this | exact this) GW147.out)) | (show (Addr.add _ _).block ≠ _; rw [add_block]; exact Nat.ne_of_lt (Nat.lt_of_lt_of_le (by have := World.block_lt_of_cell? _ _ hw133_0; first | rwa [add_block] at this | exact this) GW147.out)) | (dsimp only; exact Nat.ne_of_lt (Nat.lt_of_lt_of_le (by have := World.block_lt_of_cell? _ _ hw133_0; first | rwa [add_block] at this | exact this) GW147.out))) _).trans (((cell_far (p := ⟨gb147, _, none⟩) (by first | exact Nat.ne_of_lt (Nat.lt_of_lt_of_le (by have := World.block_lt_of_cell? _ _ hw133_0; first | rwa [add_block] at this | exact this) GW147.out) | (rw [add_block]; exact Nat.ne_of_lt (Nat.lt_of_lt_of_le (by have := World.block_lt_of_cell? _ _ hw133_0; first | rwa [add_block] at this | exact this) GW147.out)) | (show (Addr.add _ _).block ≠ _; rw [add_block]; exact Nat.ne_of_lt (Nat.lt_of_lt_of_le (by have := World.block_lt_of_cell? _ _ hw133_0; first | rwa [add_block] at this | exact this) GW147.out)) | (dsimp only; exact Nat.ne_of_lt (Nat.lt_of_lt_of_le (by have := World.block_lt_of_cell? _ _ hw133_0; first | rwa [add_block] at this | exact this) GW147.out))) _).trans (((cell_far (p := ⟨gb147, _, none⟩) (by first | exact Nat.ne_of_lt (Nat.lt_of_lt_of_le (by have := World.block_lt_of_cell? _ _ hw133_0; first | rwa [add_block] at this | exact this) GW147.out) | (rw [add_block]; exact Nat.ne_of_lt (Nat.lt_of_lt_of_le (by have := World.block_lt_of_cell? _ _ hw133_0; first | rwa [add_block] at this | exact this) GW147.out)) | (show (Addr.add _ _).block ≠ _; rw [add_block]; exact Nat.ne_of_lt (Nat.lt_of_lt_of_le (by have := World.block_lt_of_cell? _ _ hw133_0; first | rwa [add_block] at this | exact this) GW147.out)) | (dsimp only; exact Nat.ne_of_lt (Nat.lt_of_lt_of_le (by have := World.block_lt_of_cell? _ _ hw133_0; first | rwa [add_block] at this | exact this) GW147.out))) _).trans (((cell_far (p := ⟨gb147, _, none⟩) (by first | exact Nat.ne_of_lt (Nat.lt_of_lt_of_le (by have := World.block_lt_of_cell? _ _ hw133_0; first | rwa [add_block] at this | exact this) GW147.out) | (rw [add_block]; exact Nat.ne_of_lt (Nat.lt_of_lt_of_le (by have := World.block_lt_of_cell? _ _ hw133_0; first | rwa [add_block] at this | exact this) GW147.out)) | (show (Addr.add _ _).block ≠ _; rw [add_block]; exact Nat.ne_of_lt (Nat.lt_of_lt_of_le (by have := World.block_lt_of_cell? _ _ hw133_0; first | rwa [add_block] at this | exact this) GW147.out)) | (dsimp only; exact Nat.ne_of_lt (Nat.lt_of_lt_of_le (by have := World.block_lt_of_cell? _ _ hw133_0; first | rwa [add_block] at this | exact this) GW147.out))) _).trans (((cell_far (p := ⟨gb147, _, none⟩) (by first | exact Nat.ne_of_lt (Nat.lt_of_lt_of_le (by have := World.block_lt_of_cell? _ _ hw133_0; first | rwa [add_block] at this | exact this) GW147.out) | (rw [add_block]; exact Nat.ne_of_lt (Nat.lt_of_lt_of_le (by have := World.block_lt_of_cell? _ _ hw133_0; first | rwa [add_block] at this | exact this) GW147.out)) | (show (Addr.add _ _).block ≠ _; rw [add_block]; exact Nat.ne_of_lt (Nat.lt_of_lt_of_le (by have := World.block_lt_of_cell? _ _ hw133_0; first | rwa [add_block] at this | exact this) GW147.out)) | (dsimp only; exact Nat.ne_of_lt (Nat.lt_of_lt_of_le (by have := World.block_lt_of_cell? _ _ hw133_0; first | rwa [add_block] at this | exact this) GW147.out))) _).trans (((cell_far (p := ⟨gb147, _, none⟩) (by first | exact Nat.ne_of_lt (Nat.lt_of_lt_of_le (by have := World.block_lt_of_cell? _ _ hw133_0; first | rwa [add_block] at this | exact this) GW147.out) | (rw [add_block]; exact Nat.ne_of_lt (Nat.lt_of_lt_of_le (by have := World.block_lt_of_cell? _ _ hw133_0; first | rwa [add_block] at this | exact this) GW147.out)) | (show (Addr.add _ _).block ≠ _; rw [add_block]; exact Nat.ne_of_lt (Nat.lt_of_lt_of_le (by have := World.block_lt_of_cell? _ _ hw133_0; first | rwa [add_block] at this | exact this) GW147.out)) | (dsimp only; exact Nat.ne_of_lt (Nat.lt_of_lt_of_le (by have := World.block_lt_of_cell? _ _ hw133_0; first | rwa [add_block] at this | exact this) GW147.out))) _).trans (((cell_far (p := ⟨gb147, _, none⟩) (by first | exact Nat.ne_of_lt (Nat.lt_of_lt_of_le (by have := World.block_lt_of_cell? _ _ hw133_0; first | rwa [add_block] at this | exact this) GW147.out) | (rw [add_block]; exact Nat.ne_of_lt (Nat.lt_of_lt_of_le (by have := World.block_lt_of_cell? _ _ hw133_0; first | rwa [add_block] at this | exact this) GW147.out)) | (show (Addr.add _ _).block ≠ _; rw [add_block]; exact Nat.ne_of_lt (Nat.lt_of_lt_of_le (by have := World.block_lt_of_cell? _ _ hw133_0; first | rwa [add_block] at this | exact this) GW147.out)) | (dsimp only; exact Nat.ne_of_lt (Nat.lt_of_lt_of_le (by have := World.block_lt_of_cell? _ _ hw133_0; first | rwa [add_block] at this | exact this) GW147.out))) _).trans (hHeld.2.1)))))))))))))))))))))), ((cell_far (p := ⟨gb147, _, none⟩) (by first | exact Nat.ne_of_lt (Nat.lt_of_lt_of_le (by have := World.block_lt_of_cell? _ _ hw134_0; first | rwa [add_block] at this | exact this) GW147.out) | (rw [add_block]; exact Nat.ne_of_lt (Nat.lt_of_lt_of_le (by have := World.block_lt_of_cell? _ _ hw134_0; first | rwa [add_block] at this | exact this) GW147.out)) | (show (Addr.add _ _).block ≠ _; rw [add_block]; exact Nat.ne_of_lt (Nat.lt_of_lt_of_le (by have := World.block_lt_of_cell? _ _ hw134_0; first | rwa [add_block] at this | exact this) GW147.out)) | (dsimp only; exact Nat.ne_of_lt (Nat.lt_of_lt_of_le (by have := World.block_lt_of_cell? _ _ hw134_0; first | rwa [add_block] at this | exact this) GW147.out))) _).trans (((cell_far (p := ⟨gb147, _, none⟩) (by first | exact Nat.ne_of_lt (Nat.lt_of_lt_of_le (by have := World.block_lt_of_cell? _ _ hw134_0; first | rwa [add_block] at this | exact this) GW147.out) | (rw [add_block]; exact Nat.ne_of_lt (Nat.lt_of_lt_of_le (by have := World.block_lt_of_cell? _ _ hw134_0; first | rwa [add_block] at this | exact this) GW147.out)) | (show (Addr.add _ _).block ≠ _; rw [add_block]; exact Nat.ne_of_lt (Nat.lt_of_lt_of_le (by have := World.block_lt_of_cell? _ _ hw134_0; first | rwa [add_block] at this | exact this) GW147.out)) | (dsimp only; exact Nat.ne_of_lt (Nat.lt_of_lt_of_le (by have := World.block_lt_of_cell? _ _ hw134_0; first | rwa [add_block] at this | exact this) GW147.out))) _).trans (((cell_far (p := ⟨gb147, _, none⟩) (by first | exact Nat.ne_of_lt (Nat.lt_of_lt_of_le (by have := World.block_lt_of_cell? _ _ hw134_0; first | rwa [add_block] at this | exact this) GW147.out) | (rw [add_block]; exact Nat.ne_of_lt (Nat.lt_of_lt_of_le (by have := World.block_lt_of_cell? _ _ hw134_0; first | rwa [add_block] at this | exact this) GW147.out)) | (show (Addr.add _ _).block ≠ _; rw [add_block]; exact Nat.ne_of_lt (Nat.lt_of_lt_of_le (by have := World.block_lt_of_cell? _ _ hw134_0; first | rwa [add_block] at this | exact this) GW147.out)) | (dsimp only; exact Nat.ne_of_lt (Nat.lt_of_lt_of_le (by have := World.block_lt_of_cell? _ _ hw134_0; first | rwa [add_block] at this | exact this) GW147.out))) _).trans (((cell_far (p := ⟨gb147, _, none⟩) (by first | exact Nat.ne_of_lt (Nat.lt_of_lt_of_le (by have := World.block_lt_of_cell? _ _ hw134_0; first | rwa [add_block] at this | exact this) GW147.out) | (rw [add_block]; exact Nat.ne_of_lt (Nat.lt_of_lt_of_le (by have := World.block_lt_of_cell? _ _ hw134_0; first | rwa [add_block] at this | exact this) GW147.out)) | (show (Addr.add _ _).block ≠ _; rw [add_block]; exact Nat.ne_of_lt (Nat.lt_of_lt_of_le (by have := World.block_lt_of_cell? _ _ hw134_0; first | rwa [add_block] at this | exact this) GW147.out)) | (dsimp only; exact Nat.ne_of_lt (Nat.lt_of_lt_of_le (by have := World.block_lt_of_cell? _ _ hw134_0; first | rwa [add_block] at this | exact this) GW147.out))) _).trans (((cell_far (p := ⟨gb147, _, none⟩) (by first | exact Nat.ne_of_lt (Nat.lt_of_lt_of_le (by have := World.block_lt_of_cell? _ _ hw134_0; first | rwa [add_block] at this | exact this) GW147.out) | (rw [add_block]; exact Nat.ne_of_lt (Nat.lt_of_lt_of_le (by have := World.block_lt_of_cell? _ _ hw134_0; first | rwa [add_block] at this | exact this) GW147.out)) | (show (Addr.add _ _).block ≠ _; rw [add_block]; exact Nat.ne_of_lt (Nat.lt_of_lt_of_le (by have := World.block_lt_of_cell? _ _ hw134_0; first | rwa [add_block] at this | exact this) GW147.out)) | (dsimp only; exact Nat.ne_of_lt (Nat.lt_of_lt_of_le (by have := World.block_lt_of_cell? _ _ hw134_0; first | rwa [add_block] at this | exact this) GW147.out))) _).trans (((cell_far (p := ⟨gb147, _, none⟩) (by first | exact Nat.ne_of_lt (Nat.lt_of_lt_of_le (by have := World.block_lt_of_cell? _ _ hw134_0; first | rwa [add_block] at this | exact this) GW147.out) | (rw [add_block]; exact Nat.ne_of_lt (Nat.lt_of_lt_of_le (by have := World.block_lt_of_cell? _ _ hw134_0; first | rwa [add_block] at this | exact this) GW147.out)) | (show (Addr.add _ _).block ≠ _; rw [add_block]; exact Nat.ne_of_lt (Nat.lt_of_lt_of_le (by have := World.block_lt_of_cell? _ _ hw134_0; first | rwa [add_block] at this | exact this) GW147.out)) | (dsimp only; exact Nat.ne_of_lt (Nat.lt_of_lt_of_le (by have := World.block_lt_of_cell? _ _ hw134_0; first | rwa [add_block] at this | exact this) GW147.out))) _).trans (((cell_far (p := ⟨gb147, _, none⟩) (by first | exact Nat.ne_of_lt (Nat.lt_of_lt_of_le (by have := World.block_lt_of_cell? _ _ hw134_0; first | rwa [add_block] at this | exact this) GW147.out) | (rw [add_block]; exact Nat.ne_of_lt (Nat.lt_of_lt_of_le (by have := World.block_lt_of_cell? _ _ hw134_0; first | rwa [add_block] at this | exact this) GW147.out)) | (show (Addr.add _ _).block ≠ _; rw [add_block]; exact Nat.ne_of_lt (Nat.lt_of_lt_of_le (by have := World.block_lt_of_cell? _ _ hw134_0; first | rwa [add_block] at this | exact this) GW147.out)) | (dsimp only; exact Nat.ne_of_lt (Nat.lt_of_lt_of_le (by have := World.block_lt_of_cell? _ _ hw134_0; first | rwa [add_block] at this | exact this) GW147.out))) _).trans (((cell_far (p := ⟨gb147, _, none⟩) (by first | exact Nat.ne_of_lt (Nat.lt_of_lt_of_le (by have := World.block_lt_of_cell? _ _ hw134_0; first | rwa [add_block] at this | exact this) GW147.out) | (rw [add_block]; exact Nat.ne_of_lt (Nat.lt_of_lt_of_le (by have := World.block_lt_of_cell? _ _ hw134_0; first | rwa [add_block] at this | exact this) GW147.out)) | (show (Addr.add _ _).block ≠ _; rw [add_block]; exact Nat.ne_of_lt (Nat.lt_of_lt_of_le (by have := World.block_lt_of_cell? _ _ hw134_0; first | rwa [add_block] at this | exact this) GW147.out)) | (dsimp only; exact Nat.ne_of_lt (Nat.lt_of_lt_of_le (by have := World.block_lt_of_cell? _ _ hw134_0; first | rwa [add_block] at this | exact this) GW147.out))) _).trans (((cell_far (p := ⟨gb147, _, none⟩) (by first | exact Nat.ne_of_lt (Nat.lt_of_lt_of_le (by have := World.block_lt_of_cell? _ _ hw134_0; first | rwa [add_block] at this | exact this) GW147.out) | (rw [add_block]; exact Nat.ne_of_lt (Nat.lt_of_lt_of_le (by have := World.block_lt_of_cell? _ _ hw134_0; first | rwa [add_block] at this | exact this) GW147.out)) | (show (Addr.add _ _).block ≠ _; rw [add_block]; exact Nat.ne_of_lt (Nat.lt_of_lt_of_le (by have := World.block_lt_of_cell? _ _ hw134_0; first | rwa [add_block] at this | exact this) GW147.out)) | (dsimp only; exact Nat.ne_of_lt (Nat.lt_of_lt_of_le (by have := World.block_lt_of_cell? _ _ hw134_0; first | rwa [add_block] at this | exact this) GW147.out))) _).trans (((cell_far (p := ⟨gb147, _, none⟩) (by first | exact Nat.ne_of_lt (Nat.lt_of_lt_of_le (by have := World.block_lt_of_cell? _ _ hw134_0; first | rwa [add_block] at this | exact this) GW147.out) | (rw [add_block]; exact Nat.ne_of_lt (Nat.lt_of_lt_of_le (by have := World.block_lt_of_cell? _ _ hw134_0; first | rwa [add_block] at this | exact this) GW147.out)) | (show (Addr.add _ _).block ≠ _; rw [add_block]; exact Nat.ne_of_lt (Nat.lt_of_lt_of_le (by have := World.block_lt_of_cell? _ _ hw134_0; first | rwa [add_block] at this | exact this) GW147.out)) | (dsimp only; exact Nat.ne_of_lt (Nat.lt_of_lt_of_le (by have := World.block_lt_of_cell? _ _ hw134_0; first | rwa [add_block] at this | exact this) GW147.out))) _).trans (((cell_far (p := ⟨gb147, _, none⟩) (by first | exact Nat.ne_of_lt (Nat.lt_of_lt_of_le (by have := World.block_lt_of_cell? _ _ hw134_0; first | rwa [add_block] at this | exact this) GW147.out) | (rw [add_block]; exact Nat.ne_of_lt (Nat.lt_of_lt_of_le (by have := World.block_lt_of_cell? _ _ hw134_0; first | rwa [add_block] at this | exact this) GW147.out)) | (show (Addr.add _ _).block ≠ _; rw [add_block]; exact Nat.ne_of_lt (Nat.lt_of_lt_of_le (by have := World.block_lt_of_cell? _ _ hw134_0; first | rwa [add_block] at this | exact this) GW147.out)) | (dsimp only; exact Nat.ne_of_lt (Nat.lt_of_lt_of_le (by have := World.block_lt_of_cell? _ _ hw134_0; first | rwa [add_block] at this | exact this) GW147.out))) _).trans (hHeld.2.2))))))))))))))))))))))⟩ (fun hHeld => ?_)
 clear hK K
 refine done_ (done_of HT_.out (by kernel_rfl)) ?_
 )
 iterate 2 (
 focus (
 have hnb2027 := NB147_123.out
 have hnc2027 := NB123_147.out
 obtain ⟨⟨hcz2028_0, hcz2028_1, hcz2028_2, hcz2028_3, hcz2028_4, hcz2028_5, hcz2028_6, hcz2028_7, hcz2028_8, hcz2028_9, hcz2028_10⟩, hfz2028_0, hfz2028_1, hfz2028_2, hfz2028_3, hfz2028_4, hfz2028_5, hfz2028_6, hfz2028_7, hfz2028_8, hfz2028_9, hfz2028_10⟩ := cells11 BK147.out
 obtain ⟨⟨hcz2029_0, hcz2029_1, hcz2029_2, hcz2029_3, hcz2029_4, hcz2029_5, hcz2029_6, hcz2029_7, hcz2029_8, hcz2029_9, hcz2029_10⟩, hfz2029_0, hfz2029_1, hfz2029_2, hfz2029_3, hfz2029_4, hfz2029_5, hfz2029_6, hfz2029_7, hfz2029_8, hfz2029_9, hfz2029_10⟩ := cells11 BK123.out
 )
 rotate_left
 )
 rotate_right 2
 {
 try go_wp2_with (first | ((with_reducible refine gate_store (t := 51) (p := 2) rfl ?_); (try (rw [drewN_self w2013]; generalize hq_ : World.drewN w2013 _ = w2013; have n0_ := Aside0.mk (Kd.R_at hq_ HO142.out); have n1_ := Aside0.mk (Kd.R_at hq_ HO146.out); have n2_ := Aside0.mk (blk_at hq_ BK123.out); have n3_ := Aside0.mk (blk_at hq_ BK147.out); have n4_ := Aside0.mk (below_at hq_ HB.out); clear hq_ HO142 HO146 BK123 BK147 HB; have HO142 := n0_; have HO146 := n1_; have BK123 := n2_; have BK147 := n3_; have HB := n4_; clear n0_ n1_ n2_ n3_ n4_; (try (obtain ⟨⟨hcyBK123_0, hcyBK123_1, hcyBK123_2, hcyBK123_3, hcyBK123_4, hcyBK123_5, hcyBK123_6, hcyBK123_7, hcyBK123_8, hcyBK123_9, hcyBK123_10⟩, hfyBK123_0, hfyBK123_1, hfyBK123_2, hfyBK123_3, hfyBK123_4, hfyBK123_5, hfyBK123_6, hfyBK123_7, hfyBK123_8, hfyBK123_9, hfyBK123_10⟩ := cells11 BK123.out)); (try (obtain ⟨⟨hcyBK147_0, hcyBK147_1, hcyBK147_2, hcyBK147_3, hcyBK147_4, hcyBK147_5, hcyBK147_6, hcyBK147_7, hcyBK147_8, hcyBK147_9, hcyBK147_10⟩, hfyBK147_0, hfyBK147_1, hfyBK147_2, hfyBK147_3, hfyBK147_4, hfyBK147_5, hfyBK147_6, hfyBK147_7, hfyBK147_8, hfyBK147_9, hfyBK147_10⟩ := cells11 BK147.out)))); refine store_event (t := 51) (p := 2) (v := ?_) (w1 := ((((((((((((((((((((((w2013.setCell ⟨gb147, 0, none⟩ (.int .i64 (wrap64 (rd l0 1)))).setCell ⟨gb147, 1, none⟩ (.int .i64 t132)).setCell ⟨gb147, 2, none⟩ (.bool ((Go.bits .and .i64 t129 16384) != 0))).setCell ⟨gb147, 3, none⟩ (.bool ((Go.bits .and .i64 t129 8192) != 0))).setCell ⟨gb147, 4, none⟩ (.int .i64 (wrap64 ((Int.tmod t129 8192) * 8)))).setCell ⟨gb147, 5, none⟩ (.int .i64 (wrap64 (rd l0 8)))).setCell ⟨gb147, 6, none⟩ (.int .i64 (wrap64 (rd l0 9)))).setCell ⟨gb147, 7, none⟩ (.int .i64 t136)).setCell ⟨gb147, 8, none⟩ (.int .i64 t138)).setCell ⟨gb147, 9, none⟩ (.slice Ao2015 t140.length co2015)).setCell ⟨gb147, 10, none⟩ (.slice Ao2014 t144.length co2014)).setCell ⟨gb123, 0, none⟩ (.int .i64 0)).setCell ⟨gb123, 1, none⟩ (.int .i64 0)).setCell ⟨gb123, 2, none⟩ (.bool false)).setCell ⟨gb123, 3, none⟩ (.bool false)).setCell ⟨gb123, 4, none⟩ (.int .i64 0)).setCell ⟨gb123, 5, none⟩ (.int .i64 0)).setCell ⟨gb123, 6, none⟩ (.int .i64 0)).setCell ⟨gb123, 7, none⟩ (.int .i64 0)).setCell ⟨gb123, 8, none⟩ (.int .i64 0)).setCell ⟨gb123, 9, none⟩ (.slice none 0 0)).setCell ⟨gb123, 10, none⟩ (.slice none 0 0))) ?hg ?ho ?hn ?hr ?_; (case ho => rfl); (case hg => rfl); (case hn => rfl); (case hr => first | (go_simp; done) | (go_simp; rfl)); intro w2030 hw; have n0_ : Aside0 (Kd.R (Kd.int .u8) 5 w2030 w.heap.size (fun k_ => some k_ ≠ (.slice Ao2014 t144.length co2014 : Value).ownBlock) (.slice Ao2015 t140.length co2015) t140) := ⟨(by rw [hw]; exact (by (with_reducible repeat (first | apply Kd.R_alloc | apply Kd.R_drewN | apply Kd.R_drew)); exact Kd.R_mono (Kd.R_far (p := ⟨gb123, 10, none⟩) (Kd.R_far (p := ⟨gb123, 9, none⟩) (Kd.R_far (p := ⟨gb123, 8, none⟩) (Kd.R_far (p := ⟨gb123, 7, none⟩) (Kd.R_far (p := ⟨gb123, 6, none⟩) (Kd.R_far (p := ⟨gb123, 5, none⟩) (Kd.R_far (p := ⟨gb123, 4, none⟩) (Kd.R_far (p := ⟨gb123, 3, none⟩) (Kd.R_far (p := ⟨gb123, 2, none⟩) (Kd.R_far (p := ⟨gb123, 1, none⟩) (Kd.R_far (p := ⟨gb123, 0, none⟩) (Kd.R_far (p := ⟨gb147, 10, none⟩) (Kd.R_far (p := ⟨gb147, 9, none⟩) (Kd.R_far (p := ⟨gb147, 8, none⟩) (Kd.R_far (p := ⟨gb147, 7, none⟩) (Kd.R_far (p := ⟨gb147, 6, none⟩) (Kd.R_far (p := ⟨gb147, 5, none⟩) (Kd.R_far (p := ⟨gb147, 4, none⟩) (Kd.R_far (p := ⟨gb147, 3, none⟩) (Kd.R_far (p := ⟨gb147, 2, none⟩) (Kd.R_far (p := ⟨gb147, 1, none⟩) (Kd.R_far (p := ⟨gb147, 0, none⟩) (Kd.R_types (Kd.R_types HO142.out BK147.out (by decide)) BK123.out (by decide)) (fun _ hk => hk.1.2) (.int .i64 (wrap64 (rd l0 1)))) (fun _ hk => hk.1.2) (.int .i64 t132)) (fun _ hk => hk.1.2) (.bool ((Go.bits .and .i64 t129 16384) != 0))) (fun _ hk => hk.1.2) (.bool ((Go.bits .and .i64 t129 8192) != 0))) (fun _ hk => hk.1.2) (.int .i64 (wrap64 ((Int.tmod t129 8192) * 8)))) (fun _ hk => hk.1.2) (.int .i64 (wrap64 (rd l0 8)))) (fun _ hk => hk.1.2) (.int .i64 (wrap64 (rd l0 9)))) (fun _ hk => hk.1.2) (.int .i64 t136)) (fun _ hk => hk.1.2) (.int .i64 t138)) (fun _ hk => hk.1.2) (.slice Ao2015 t140.length co2015)) (fun _ hk => hk.1.2) (.slice Ao2014 t144.length co2014)) (fun _ hk => hk.2) (.int .i64 0)) (fun _ hk => hk.2) (.int .i64 0)) (fun _ hk => hk.2) (.bool false)) (fun _ hk => hk.2) (.bool false)) (fun _ hk => hk.2) (.int .i64 0)) (fun _ hk => hk.2) (.int .i64 0)) (fun _ hk => hk.2) (.int .i64 0)) (fun _ hk => hk.2) (.int .i64 0)) (fun _ hk => hk.2) (.int .i64 0)) (fun _ hk => hk.2) (.slice none 0 0)) (fun _ hk => hk.2) (.slice none 0 0)) (fun _ hk => hk.1.1)))⟩; have n1_ : Aside0 (Kd.R (Kd.int .u8) 5 w2030 w.heap.size (fun k_ => some k_ ≠ (.slice Ao2015 t140.length co2015 : Value).ownBlock) (.slice Ao2014 t144.length co2014) t144) := ⟨(by rw [hw]; exact (by (with_reducible repeat (first | apply Kd.R_alloc | apply Kd.R_drewN | apply Kd.R_drew)); exact Kd.R_mono (Kd.R_far (p := ⟨gb123, 10, none⟩) (Kd.R_far (p := ⟨gb123, 9, none⟩) (Kd.R_far (p := ⟨gb123, 8, none⟩) (Kd.R_far (p := ⟨gb123, 7, none⟩) (Kd.R_far (p := ⟨gb123, 6, none⟩) (Kd.R_far (p := ⟨gb123, 5, none⟩) (Kd.R_far (p := ⟨gb123, 4, none⟩) (Kd.R_far (p := ⟨gb123, 3, none⟩) (Kd.R_far (p := ⟨gb123, 2, none⟩) (Kd.R_far (p := ⟨gb123, 1, none⟩) (Kd.R_far (p := ⟨gb123, 0, none⟩) (Kd.R_far (p := ⟨gb147, 10, none⟩) (Kd.R_far (p := ⟨gb147, 9, none⟩) (Kd.R_far (p := ⟨gb147, 8, none⟩) (Kd.R_far (p := ⟨gb147, 7, none⟩) (Kd.R_far (p := ⟨gb147, 6, none⟩) (Kd.R_far (p := ⟨gb147, 5, none⟩) (Kd.R_far (p := ⟨gb147, 4, none⟩) (Kd.R_far (p := ⟨gb147, 3, none⟩) (Kd.R_far (p := ⟨gb147, 2, none⟩) (Kd.R_far (p := ⟨gb147, 1, none⟩) (Kd.R_far (p := ⟨gb147, 0, none⟩) (Kd.R_types (Kd.R_types HO146.out BK147.out (by decide)) BK123.out (by decide)) (fun _ hk => hk.1.2) (.int .i64 (wrap64 (rd l0 1)))) (fun _ hk => hk.1.2) (.int .i64 t132)) (fun _ hk => hk.1.2) (.bool ((Go.bits .and .i64 t129 16384) != 0))) (fun _ hk => hk.1.2) (.bool ((Go.bits .and .i64 t129 8192) != 0))) (fun _ hk => hk.1.2) (.int .i64 (wrap64 ((Int.tmod t129 8192) * 8)))) (fun _ hk => hk.1.2) (.int .i64 (wrap64 (rd l0 8)))) (fun _ hk => hk.1.2) (.int .i64 (wrap64 (rd l0 9)))) (fun _ hk => hk.1.2) (.int .i64 t136)) (fun _ hk => hk.1.2) (.int .i64 t138)) (fun _ hk => hk.1.2) (.slice Ao2015 t140.length co2015)) (fun _ hk => hk.1.2) (.slice Ao2014 t144.length co2014)) (fun _ hk => hk.2) (.int .i64 0)) (fun _ hk => hk.2) (.int .i64 0)) (fun _ hk => hk.2) (.bool false)) (fun _ hk => hk.2) (.bool false)) (fun _ hk => hk.2) (.int .i64 0)) (fun _ hk => hk.2) (.int .i64 0)) (fun _ hk => hk.2) (.int .i64 0)) (fun _ hk => hk.2) (.int .i64 0)) (fun _ hk => hk.2) (.int .i64 0)) (fun _ hk => hk.2) (.slice none 0 0)) (fun _ hk => hk.2) (.slice none 0 0)) (fun _ hk => hk.1.1)))⟩; have n2_ : Aside0 (w2030.heap[gb123]? = some (.cells #[.int .i64 0, .int .i64 0, .bool false, .bool false, .int .i64 0, .int .i64 0, .int .i64 0, .int .i64 0, .int .i64 0, .slice none 0 0, .slice none 0 0] 51 (0, 0))) := ⟨(by rw [hw]; exact (by (with_reducible repeat (first | refine blk_drewN ?_ _ | refine blk_drew ?_ | refine blk_alloc ?_ _)); refine blk_put (cs := #[.int .i64 0, .int .i64 0, .bool false, .bool false, .int .i64 0, .int .i64 0, .int .i64 0, .int .i64 0, .int .i64 0, .slice none 0 0, .slice none 0 0]) ?_ 10 _ rfl; (with_reducible repeat (first | refine blk_drewN ?_ _ | refine blk_drew ?_ | refine blk_alloc ?_ _)); refine blk_put (cs := #[.int .i64 0, .int .i64 0, .bool false, .bool false, .int .i64 0, .int .i64 0, .int .i64 0, .int .i64 0, .int .i64 0, .slice none 0 0, .slice none 0 0]) ?_ 9 _ rfl; (with_reducible repeat (first | refine blk_drewN ?_ _ | refine blk_drew ?_ | refine blk_alloc ?_ _)); refine blk_put (cs := #[.int .i64 0, .int .i64 0, .bool false, .bool false, .int .i64 0, .int .i64 0, .int .i64 0, .int .i64 0, .int .i64 0, .slice none 0 0, .slice none 0 0]) ?_ 8 _ rfl; (with_reducible repeat (first | refine blk_drewN ?_ _ | refine blk_drew ?_ | refine blk_alloc ?_ _)); refine blk_put (cs := #[.int .i64 0, .int .i64 0, .bool false, .bool false, .int .i64 0, .int .i64 0, .int .i64 0, .int .i64 0, .int .i64 0, .slice none 0 0, .slice none 0 0]) ?_ 7 _ rfl; (with_reducible repeat (first | refine blk_drewN ?_ _ | refine blk_drew ?_ | refine blk_alloc ?_ _)); refine blk_put (cs := #[.int .i64 0, .int .i64 0, .bool false, .bool false, .int .i64 0, .int .i64 0, .int .i64 0, .int .i64 0, .int .i64 0, .slice none 0 0, .slice none 0 0]) ?_ 6 _ rfl; (with_reducible repeat (first | refine blk_drewN ?_ _ | refine blk_drew ?_ | refine blk_alloc ?_ _)); refine blk_put (cs := #[.int .i64 0, .int .i64 0, .bool false, .bool false, .int .i64 0, .int .i64 0, .int .i64 0, .int .i64 0, .int .i64 0, .slice none 0 0, .slice none 0 0]) ?_ 5 _ rfl; (with_reducible repeat (first | refine blk_drewN ?_ _ | refine blk_drew ?_ | refine blk_alloc ?_ _)); refine blk_put (cs := #[.int .i64 0, .int .i64 0, .bool false, .bool false, .int .i64 0, .int .i64 0, .int .i64 0, .int .i64 0, .int .i64 0, .slice none 0 0, .slice none 0 0]) ?_ 4 _ rfl; (with_reducible repeat (first | refine blk_drewN ?_ _ | refine blk_drew ?_ | refine blk_alloc ?_ _)); refine blk_put (cs := #[.int .i64 0, .int .i64 0, .bool false, .bool false, .int .i64 0, .int .i64 0, .int .i64 0, .int .i64 0, .int .i64 0, .slice none 0 0, .slice none 0 0]) ?_ 3 _ rfl; (with_reducible repeat (first | refine blk_drewN ?_ _ | refine blk_drew ?_ | refine blk_alloc ?_ _)); refine blk_put (cs := #[.int .i64 0, .int .i64 0, .bool false, .bool false, .int .i64 0, .int .i64 0, .int .i64 0, .int .i64 0, .int .i64 0, .slice none 0 0, .slice none 0 0]) ?_ 2 _ rfl; (with_reducible repeat (first | refine blk_drewN ?_ _ | refine blk_drew ?_ | refine blk_alloc ?_ _)); refine blk_put (cs := #[.int .i64 0, .int .i64 0, .bool false, .bool false, .int .i64 0, .int .i64 0, .int .i64 0, .int .i64 0, .int .i64 0, .slice none 0 0, .slice none 0 0]) ?_ 1 _ rfl; (with_reducible repeat (first | refine blk_drewN ?_ _ | refine blk_drew ?_ | refine blk_alloc ?_ _)); refine blk_put (cs := #[.int .i64 0, .int .i64 0, .bool false, .bool false, .int .i64 0, .int .i64 0, .int .i64 0, .int .i64 0, .int .i64 0, .slice none 0 0, .slice none 0 0]) ?_ 0 _ rfl; (with_reducible repeat (first | refine blk_drewN ?_ _ | refine blk_drew ?_ | refine blk_alloc ?_ _)); refine blk_far ?_ NB123_147.out _; (with_reducible repeat (first | refine blk_drewN ?_ _ | refine blk_drew ?_ | refine blk_alloc ?_ _)); refine blk_far ?_ NB123_147.out _; (with_reducible repeat (first | refine blk_drewN ?_ _ | refine blk_drew ?_ | refine blk_alloc ?_ _)); refine blk_far ?_ NB123_147.out _; (with_reducible repeat (first | refine blk_drewN ?_ _ | refine blk_drew ?_ | refine blk_alloc ?_ _)); refine blk_far ?_ NB123_147.out _; (with_reducible repeat (first | refine blk_drewN ?_ _ | refine blk_drew ?_ | refine blk_alloc ?_ _)); refine blk_far ?_ NB123_147.out _; (with_reducible repeat (first | refine blk_drewN ?_ _ | refine blk_drew ?_ | refine blk_alloc ?_ _)); refine blk_far ?_ NB123_147.out _; (with_reducible repeat (first | refine blk_drewN ?_ _ | refine blk_drew ?_ | refine blk_alloc ?_ _)); refine blk_far ?_ NB123_147.out _; (with_reducible repeat (first | refine blk_drewN ?_ _ | refine blk_drew ?_ | refine blk_alloc ?_ _)); refine blk_far ?_ NB123_147.out _; (with_reducible repeat (first | refine blk_drewN ?_ _ | refine blk_drew ?_ | refine blk_alloc ?_ _)); refine blk_far ?_ NB123_147.out _; (with_reducible repeat (first | refine blk_drewN ?_ _ | refine blk_drew ?_ | refine blk_alloc ?_ _)); refine blk_far ?_ NB123_147.out _; (with_reducible repeat (first | refine blk_drewN ?_ _ | refine blk_drew ?_ | refine blk_alloc ?_ _)); refine blk_far ?_ NB123_147.out _; (with_reducible repeat (first | refine blk_drewN ?_ _ | refine blk_drew ?_ | refine blk_alloc ?_ _)); exact BK123.out))⟩; have n3_ : Aside0 (w2030.heap[gb147]? = some (.cells #[.int .i64 (wrap64 (rd l0 1)), .int .i64 t132, .bool ((Go.bits .and .i64 t129 16384) != 0), .bool ((Go.bits .and .i64 t129 8192) != 0), .int .i64 (wrap64 ((Int.tmod t129 8192) * 8)), .int .i64 (wrap64 (rd l0 8)), .int .i64 (wrap64 (rd l0 9)), .int .i64 t136, .int .i64 t138, .slice Ao2015 t140.length co2015, .slice Ao2014 t144.length co2014] 51 (0, 0))) := ⟨(by rw [hw]; exact (by (with_reducible repeat (first | refine blk_drewN ?_ _ | refine blk_drew ?_ | refine blk_alloc ?_ _)); refine blk_far ?_ NB147_123.out _; (with_reducible repeat (first | refine blk_drewN ?_ _ | refine blk_drew ?_ | refine blk_alloc ?_ _)); refine blk_far ?_ NB147_123.out _; (with_reducible repeat (first | refine blk_drewN ?_ _ | refine blk_drew ?_ | refine blk_alloc ?_ _)); refine blk_far ?_ NB147_123.out _; (with_reducible repeat (first | refine blk_drewN ?_ _ | refine blk_drew ?_ | refine blk_alloc ?_ _)); refine blk_far ?_ NB147_123.out _; (with_reducible repeat (first | refine blk_drewN ?_ _ | refine blk_drew ?_ | refine blk_alloc ?_ _)); refine blk_far ?_ NB147_123.out _; (with_reducible repeat (first | refine blk_drewN ?_ _ | refine blk_drew ?_ | refine blk_alloc ?_ _)); refine blk_far ?_ NB147_123.out _; (with_reducible repeat (first | refine blk_drewN ?_ _ | refine blk_drew ?_ | refine blk_alloc ?_ _)); refine blk_far ?_ NB147_123.out _; (with_reducible repeat (first | refine blk_drewN ?_ _ | refine blk_drew ?_ | refine blk_alloc ?_ _)); refine blk_far ?_ NB147_123.out _; (with_reducible repeat (first | refine blk_drewN ?_ _ | refine blk_drew ?_ | refine blk_alloc ?_ _)); refine blk_far ?_ NB147_123.out _; (with_reducible repeat (first | refine blk_drewN ?_ _ | refine blk_drew ?_ | refine blk_alloc ?_ _)); refine blk_far ?_ NB147_123.out _; (with_reducible repeat (first | refine blk_drewN ?_ _ | refine blk_drew ?_ | refine blk_alloc ?_ _)); refine blk_far ?_ NB147_123.out _; (with_reducible repeat (first | refine blk_drewN ?_ _ | refine blk_drew ?_ | refine blk_alloc ?_ _)); refine blk_put (cs := #[.int .i64 (wrap64 (rd l0 1)), .int .i64 t132, .bool ((Go.bits .and .i64 t129 16384) != 0), .bool ((Go.bits .and .i64 t129 8192) != 0), .int .i64 (wrap64 ((Int.tmod t129 8192) * 8)), .int .i64 (wrap64 (rd l0 8)), .int .i64 (wrap64 (rd l0 9)), .int .i64 t136, .int .i64 t138, .slice Ao2015 t140.length co2015, .slice none 0 0]) ?_ 10 _ rfl; (with_reducible repeat (first | refine blk_drewN ?_ _ | refine blk_drew ?_ | refine blk_alloc ?_ _)); refine blk_put (cs := #[.int .i64 (wrap64 (rd l0 1)), .int .i64 t132, .bool ((Go.bits .and .i64 t129 16384) != 0), .bool ((Go.bits .and .i64 t129 8192) != 0), .int .i64 (wrap64 ((Int.tmod t129 8192) * 8)), .int .i64 (wrap64 (rd l0 8)), .int .i64 (wrap64 (rd l0 9)), .int .i64 t136, .int .i64 t138, .slice none 0 0, .slice none 0 0]) ?_ 9 _ rfl; (with_reducible repeat (first | refine blk_drewN ?_ _ | refine blk_drew ?_ | refine blk_alloc ?_ _)); refine blk_put (cs := #[.int .i64 (wrap64 (rd l0 1)), .int .i64 t132, .bool ((Go.bits .and .i64 t129 16384) != 0), .bool ((Go.bits .and .i64 t129 8192) != 0), .int .i64 (wrap64 ((Int.tmod t129 8192) * 8)), .int .i64 (wrap64 (rd l0 8)), .int .i64 (wrap64 (rd l0 9)), .int .i64 t136, .int .i64 0, .slice none 0 0, .slice none 0 0]) ?_ 8 _ rfl; (with_reducible repeat (first | refine blk_drewN ?_ _ | refine blk_drew ?_ | refine blk_alloc ?_ _)); refine blk_put (cs := #[.int .i64 (wrap64 (rd l0 1)), .int .i64 t132, .bool ((Go.bits .and .i64 t129 16384) != 0), .bool ((Go.bits .and .i64 t129 8192) != 0), .int .i64 (wrap64 ((Int.tmod t129 8192) * 8)), .int .i64 (wrap64 (rd l0 8)), .int .i64 (wrap64 (rd l0 9)), .int .i64 0, .int .i64 0, .slice none 0 0, .slice none 0 0]) ?_ 7 _ rfl; (with_reducible repeat (first | refine blk_drewN ?_ _ | refine blk_drew ?_ | refine blk_alloc ?_ _)); refine blk_put (cs := #[.int .i64 (wrap64 (rd l0 1)), .int .i64 t132, .bool ((Go.bits .and .i64 t129 16384) != 0), .bool ((Go.bits .and .i64 t129 8192) != 0), .int .i64 (wrap64 ((Int.tmod t129 8192) * 8)), .int .i64 (wrap64 (rd l0 8)), .int .i64 0, .int .i64 0, .int .i64 0, .slice none 0 0, .slice none 0 0]) ?_ 6 _ rfl; (with_reducible repeat (first | refine blk_drewN ?_ _ | refine blk_drew ?_ | refine blk_alloc ?_ _)); refine blk_put (cs := #[.int .i64 (wrap64 (rd l0 1)), .int .i64 t132, .bool ((Go.bits .and .i64 t129 16384) != 0), .bool ((Go.bits .and .i64 t129 8192) != 0), .int .i64 (wrap64 ((Int.tmod t129 8192) * 8)), .int .i64 0, .int .i64 0, .int .i64 0, .int .i64 0, .slice none 0 0, .slice none 0 0]) ?_ 5 _ rfl; (with_reducible repeat (first | refine blk_drewN ?_ _ | refine blk_drew ?_ | refine blk_alloc ?_ _)); refine blk_put (cs := #[.int .i64 (wrap64 (rd l0 1)), .int .i64 t132, .bool ((Go.bits .and .i64 t129 16384) != 0), .bool ((Go.bits .and .i64 t129 8192) != 0), .int .i64 0, .int .i64 0, .int .i64 0, .int .i64 0, .int .i64 0, .slice none 0 0, .slice none 0 0]) ?_ 4 _ rfl; (with_reducible repeat (first | refine blk_drewN ?_ _ | refine blk_drew ?_ | refine blk_alloc ?_ _)); refine blk_put (cs := #[.int .i64 (wrap64 (rd l0 1)), .int .i64 t132, .bool ((Go.bits .and .i64 t129 16384) != 0), .bool false, .int .i64 0, .int .i64 0, .int .i64 0, .int .i64 0, .int .i64 0, .slice none 0 0, .slice none 0 0]) ?_ 3 _ rfl; (with_reducible repeat (first | refine blk_drewN ?_ _ | refine blk_drew ?_ | refine blk_alloc ?_ _)); refine blk_put (cs := #[.int .i64 (wrap64 (rd l0 1)), .int .i64 t132, .bool false, .bool false, .int .i64 0, .int .i64 0, .int .i64 0, .int .i64 0, .int .i64 0, .slice none 0 0, .slice none 0 0]) ?_ 2 _ rfl; (with_reducible repeat (first | refine blk_drewN ?_ _ | refine blk_drew ?_ | refine blk_alloc ?_ _)); refine blk_put (cs := #[.int .i64 (wrap64 (rd l0 1)), .int .i64 0, .bool false, .bool false, .int .i64 0, .int .i64 0, .int .i64 0, .int .i64 0, .int .i64 0, .slice none 0 0, .slice none 0 0]) ?_ 1 _ rfl; (with_reducible repeat (first | refine blk_drewN ?_ _ | refine blk_drew ?_ | refine blk_alloc ?_ _)); refine blk_put (cs := #[.int .i64 0, .int .i64 0, .bool false, .bool false, .int .i64 0, .int .i64 0, .int .i64 0, .int .i64 0, .int .i64 0, .slice none 0 0, .slice none 0 0]) ?_ 0 _ rfl; (with_reducible repeat (first | refine blk_drewN ?_ _ | refine blk_drew ?_ | refine blk_alloc ?_ _)); exact BK147.out))⟩; have n4_ : Aside0 (Below w.heap.size w w2030) := ⟨(by rw [hw]; exact wB)⟩; clear hw; clear HO142; clear HO146; clear BK123; clear BK147; clear HB; have HO142 := n0_; have HO146 := n1_; have BK123 := n2_; have BK147 := n3_; have HB := n4_; clear n0_ n1_ n2_ n3_ n4_))
 refine bodyPost_ret (results_ct rfl _ _ gb123 51 #[.int .i64 0, .int .i64 0, .bool false, .bool false, .int .i64 0, .int .i64 0, .int .i64 0, .int .i64 0, .int .i64 0, .slice none 0 0, .slice none 0 0] (0, 0) _ rfl (Bh BK123) Try.underlying51 rfl (by kernel_rfl)) rfl ?_
 exact ⟨_, _, by first | rfl | (simp [errW_none, errW_some] <;> rfl) | (simp [*, errW_none, errW_some] <;> rfl), by first | exact Kd.R_nil _ _ _ _ _ | exact Kd.N_nil _ _ _ _ _ | exact Kd.V_nil _ _ _ _ _ | exact Kd.Q_nil _ _ _ _ _ | exact Kd.S_nil _ _ _ _ _, by first | exact Kd.R_nil _ _ _ _ _ | exact Kd.N_nil _ _ _ _ _ | exact Kd.V_nil _ _ _ _ _ | exact Kd.Q_nil _ _ _ _ _ | exact Kd.S_nil _ _ _ _ _, wB⟩
 }
 {
 try go_wp2_with (first | ((with_reducible refine gate_store (t := 51) (p := 2) rfl ?_); (try (rw [drewN_self w2013]; generalize hq_ : World.drewN w2013 _ = w2013; have n0_ := Aside0.mk (Kd.R_at hq_ HO142.out); have n1_ := Aside0.mk (Kd.R_at hq_ HO146.out); have n2_ := Aside0.mk (blk_at hq_ BK123.out); have n3_ := Aside0.mk (blk_at hq_ BK147.out); have n4_ := Aside0.mk (below_at hq_ HB.out); clear hq_ HO142 HO146 BK123 BK147 HB; have HO142 := n0_; have HO146 := n1_; have BK123 := n2_; have BK147 := n3_; have HB := n4_; clear n0_ n1_ n2_ n3_ n4_; (try (obtain ⟨⟨hcyBK123_0, hcyBK123_1, hcyBK123_2, hcyBK123_3, hcyBK123_4, hcyBK123_5, hcyBK123_6, hcyBK123_7, hcyBK123_8, hcyBK123_9, hcyBK123_10⟩, hfyBK123_0, hfyBK123_1, hfyBK123_2, hfyBK123_3, hfyBK123_4, hfyBK123_5, hfyBK123_6, hfyBK123_7, hfyBK123_8, hfyBK123_9, hfyBK123_10⟩ := cells11 BK123.out)); (try (obtain ⟨⟨hcyBK147_0, hcyBK147_1, hcyBK147_2, hcyBK147_3, hcyBK147_4, hcyBK147_5, hcyBK147_6, hcyBK147_7, hcyBK147_8, hcyBK147_9, hcyBK147_10⟩, hfyBK147_0, hfyBK147_1, hfyBK147_2, hfyBK147_3, hfyBK147_4, hfyBK147_5, hfyBK147_6, hfyBK147_7, hfyBK147_8, hfyBK147_9, hfyBK147_10⟩ := cells11 BK147.out)))); refine store_event (t := 51) (p := 2) (v := ?_) (w1 := ((((((((((((((((((((((w2013.setCell ⟨gb147, 0, none⟩ (.int .i64 (wrap64 (rd l0 1)))).setCell ⟨gb147, 1, none⟩ (.int .i64 t132)).setCell ⟨gb147, 2, none⟩ (.bool ((Go.bits .and .i64 t129 16384) != 0))).setCell ⟨gb147, 3, none⟩ (.bool ((Go.bits .and .i64 t129 8192) != 0))).setCell ⟨gb147, 4, none⟩ (.int .i64 (wrap64 ((Int.tmod t129 8192) * 8)))).setCell ⟨gb147, 5, none⟩ (.int .i64 (wrap64 (rd l0 8)))).setCell ⟨gb147, 6, none⟩ (.int .i64 (wrap64 (rd l0 9)))).setCell ⟨gb147, 7, none⟩ (.int .i64 t136)).setCell ⟨gb147, 8, none⟩ (.int .i64 t138)).setCell ⟨gb147, 9, none⟩ (.slice Ao2015 t140.length co2015)).setCell ⟨gb147, 10, none⟩ (.slice Ao2014 t144.length co2014)).setCell ⟨gb123, 0, none⟩ (.int .i64 (wrap64 (rd l0 1)))).setCell ⟨gb123, 1, none⟩ (.int .i64 t132)).setCell ⟨gb123, 2, none⟩ (.bool ((Go.bits .and .i64 t129 16384) != 0))).setCell ⟨gb123, 3, none⟩ (.bool ((Go.bits .and .i64 t129 8192) != 0))).setCell ⟨gb123, 4, none⟩ (.int .i64 (wrap64 ((Int.tmod t129 8192) * 8)))).setCell ⟨gb123, 5, none⟩ (.int .i64 (wrap64 (rd l0 8)))).setCell ⟨gb123, 6, none⟩ (.int .i64 (wrap64 (rd l0 9)))).setCell ⟨gb123, 7, none⟩ (.int .i64 t136)).setCell ⟨gb123, 8, none⟩ (.int .i64 t138)).setCell ⟨gb123, 9, none⟩ (.slice Ao2015 t140.length co2015)).setCell ⟨gb123, 10, none⟩ (.slice Ao2014 t144.length co2014))) ?hg ?ho ?hn ?hr ?_; (case ho => rfl); (case hg => rfl); (case hn => rfl); (case hr => first | (go_simp; done) | (go_simp; rfl)); intro w2030 hw; have n0_ : Aside0 (Kd.R (Kd.int .u8) 5 w2030 w.heap.size (fun k_ => some k_ ≠ (.slice Ao2014 t144.length co2014 : Value).ownBlock) (.slice Ao2015 t140.length co2015) t140) := ⟨(by rw [hw]; exact (by (with_reducible repeat (first | apply Kd.R_alloc | apply Kd.R_drewN | apply Kd.R_drew)); exact Kd.R_mono (Kd.R_far (p := ⟨gb123, 10, none⟩) (Kd.R_far (p := ⟨gb123, 9, none⟩) (Kd.R_far (p := ⟨gb123, 8, none⟩) (Kd.R_far (p := ⟨gb123, 7, none⟩) (Kd.R_far (p := ⟨gb123, 6, none⟩) (Kd.R_far (p := ⟨gb123, 5, none⟩) (Kd.R_far (p := ⟨gb123, 4, none⟩) (Kd.R_far (p := ⟨gb123, 3, none⟩) (Kd.R_far (p := ⟨gb123, 2, none⟩) (Kd.R_far (p := ⟨gb123, 1, none⟩) (Kd.R_far (p := ⟨gb123, 0, none⟩) (Kd.R_far (p := ⟨gb147, 10, none⟩) (Kd.R_far (p := ⟨gb147, 9, none⟩) (Kd.R_far (p := ⟨gb147, 8, none⟩) (Kd.R_far (p := ⟨gb147, 7, none⟩) (Kd.R_far (p := ⟨gb147, 6, none⟩) (Kd.R_far (p := ⟨gb147, 5, none⟩) (Kd.R_far (p := ⟨gb147, 4, none⟩) (Kd.R_far (p := ⟨gb147, 3, none⟩) (Kd.R_far (p := ⟨gb147, 2, none⟩) (Kd.R_far (p := ⟨gb147, 1, none⟩) (Kd.R_far (p := ⟨gb147, 0, none⟩) (Kd.R_types (Kd.R_types HO142.out BK147.out (by decide)) BK123.out (by decide)) (fun _ hk => hk.1.2) (.int .i64 (wrap64 (rd l0 1)))) (fun _ hk => hk.1.2) (.int .i64 t132)) (fun _ hk => hk.1.2) (.bool ((Go.bits .and .i64 t129 16384) != 0))) (fun _ hk => hk.1.2) (.bool ((Go.bits .and .i64 t129 8192) != 0))) (fun _ hk => hk.1.2) (.int .i64 (wrap64 ((Int.tmod t129 8192) * 8)))) (fun _ hk => hk.1.2) (.int .i64 (wrap64 (rd l0 8)))) (fun _ hk => hk.1.2) (.int .i64 (wrap64 (rd l0 9)))) (fun _ hk => hk.1.2) (.int .i64 t136)) (fun _ hk => hk.1.2) (.int .i64 t138)) (fun _ hk => hk.1.2) (.slice Ao2015 t140.length co2015)) (fun _ hk => hk.1.2) (.slice Ao2014 t144.length co2014)) (fun _ hk => hk.2) (.int .i64 (wrap64 (rd l0 1)))) (fun _ hk => hk.2) (.int .i64 t132)) (fun _ hk => hk.2) (.bool ((Go.bits .and .i64 t129 16384) != 0))) (fun _ hk => hk.2) (.bool ((Go.bits .and .i64 t129 8192) != 0))) (fun _ hk => hk.2) (.int .i64 (wrap64 ((Int.tmod t129 8192) * 8)))) (fun _ hk => hk.2) (.int .i64 (wrap64 (rd l0 8)))) (fun _ hk => hk.2) (.int .i64 (wrap64 (rd l0 9)))) (fun _ hk => hk.2) (.int .i64 t136)) (fun _ hk => hk.2) (.int .i64 t138)) (fun _ hk => hk.2) (.slice Ao2015 t140.length co2015)) (fun _ hk => hk.2) (.slice Ao2014 t144.length co2014)) (fun _ hk => hk.1.1)))⟩; have n1_ : Aside0 (Kd.R (Kd.int .u8) 5 w2030 w.heap.size (fun k_ => some k_ ≠ (.slice Ao2015 t140.length co2015 : Value).ownBlock) (.slice Ao2014 t144.length co2014) t144) := ⟨(by rw [hw]; exact (by (with_reducible repeat (first | apply Kd.R_alloc | apply Kd.R_drewN | apply Kd.R_drew)); exact Kd.R_mono (Kd.R_far (p := ⟨gb123, 10, none⟩) (Kd.R_far (p := ⟨gb123, 9, none⟩) (Kd.R_far (p := ⟨gb123, 8, none⟩) (Kd.R_far (p := ⟨gb123, 7, none⟩) (Kd.R_far (p := ⟨gb123, 6, none⟩) (Kd.R_far (p := ⟨gb123, 5, none⟩) (Kd.R_far (p := ⟨gb123, 4, none⟩) (Kd.R_far (p := ⟨gb123, 3, none⟩) (Kd.R_far (p := ⟨gb123, 2, none⟩) (Kd.R_far (p := ⟨gb123, 1, none⟩) (Kd.R_far (p := ⟨gb123, 0, none⟩) (Kd.R_far (p := ⟨gb147, 10, none⟩) (Kd.R_far (p := ⟨gb147, 9, none⟩) (Kd.R_far (p := ⟨gb147, 8, none⟩) (Kd.R_far (p := ⟨gb147, 7, none⟩) (Kd.R_far (p := ⟨gb147, 6, none⟩) (Kd.R_far (p := ⟨gb147, 5, none⟩) (Kd.R_far (p := ⟨gb147, 4, none⟩) (Kd.R_far (p := ⟨gb147, 3, none⟩) (Kd.R_far (p := ⟨gb147, 2, none⟩) (Kd.R_far (p := ⟨gb147, 1, none⟩) (Kd.R_far (p := ⟨gb147, 0, none⟩) (Kd.R_types (Kd.R_types HO146.out BK147.out (by decide)) BK123.out (by decide)) (fun _ hk => hk.1.2) (.int .i64 (wrap64 (rd l0 1)))) (fun _ hk => hk.1.2) (.int .i64 t132)) (fun _ hk => hk.1.2) (.bool ((Go.bits .and .i64 t129 16384) != 0))) (fun _ hk => hk.1.2) (.bool ((Go.bits .and .i64 t129 8192) != 0))) (fun _ hk => hk.1.2) (.int .i64 (wrap64 ((Int.tmod t129 8192) * 8)))) (fun _ hk => hk.1.2) (.int .i64 (wrap64 (rd l0 8)))) (fun _ hk => hk.1.2) (.int .i64 (wrap64 (rd l0 9)))) (fun _ hk => hk.1.2) (.int .i64 t136)) (fun _ hk => hk.1.2) (.int .i64 t138)) (fun _ hk => hk.1.2) (.slice Ao2015 t140.length co2015)) (fun _ hk => hk.1.2) (.slice Ao2014 t144.length co2014)) (fun _ hk => hk.2) (.int .i64 (wrap64 (rd l0 1)))) (fun _ hk => hk.2) (.int .i64 t132)) (fun _ hk => hk.2) (.bool ((Go.bits .and .i64 t129 16384) != 0))) (fun _ hk => hk.2) (.bool ((Go.bits .and .i64 t129 8192) != 0))) (fun _ hk => hk.2) (.int .i64 (wrap64 ((Int.tmod t129 8192) * 8)))) (fun _ hk => hk.2) (.int .i64 (wrap64 (rd l0 8)))) (fun _ hk => hk.2) (.int .i64 (wrap64 (rd l0 9)))) (fun _ hk => hk.2) (.int .i64 t136)) (fun _ hk => hk.2) (.int .i64 t138)) (fun _ hk => hk.2) (.slice Ao2015 t140.length co2015)) (fun _ hk => hk.2) (.slice Ao2014 t144.length co2014)) (fun _ hk => hk.1.1)))⟩; have n2_ : Aside0 (w2030.heap[gb123]? = some (.cells #[.int .i64 (wrap64 (rd l0 1)), .int .i64 t132, .bool ((Go.bits .and .i64 t129 16384) != 0), .bool ((Go.bits .and .i64 t129 8192) != 0), .int .i64 (wrap64 ((Int.tmod t129 8192) * 8)), .int .i64 (wrap64 (rd l0 8)), .int .i64 (wrap64 (rd l0 9)), .int .i64 t136, .int .i64 t138, .slice Ao2015 t140.length co2015, .slice Ao2014 t144.length co2014] 51 (0, 0))) := ⟨(by rw [hw]; exact (by (with_reducible repeat (first | refine blk_drewN ?_ _ | refine blk_drew ?_ | refine blk_alloc ?_ _)); refine blk_put (cs := #[.int .i64 (wrap64 (rd l0 1)), .int .i64 t132, .bool ((Go.bits .and .i64 t129 16384) != 0), .bool ((Go.bits .and .i64 t129 8192) != 0), .int .i64 (wrap64 ((Int.tmod t129 8192) * 8)), .int .i64 (wrap64 (rd l0 8)), .int .i64 (wrap64 (rd l0 9)), .int .i64 t136, .int .i64 t138, .slice Ao2015 t140.length co2015, .slice none 0 0]) ?_ 10 _ rfl; (with_reducible repeat (first | refine blk_drewN ?_ _ | refine blk_drew ?_ | refine blk_alloc ?_ _)); refine blk_put (cs := #[.int .i64 (wrap64 (rd l0 1)), .int .i64 t132, .bool ((Go.bits .and .i64 t129 16384) != 0), .bool ((Go.bits .and .i64 t129 8192) != 0), .int .i64 (wrap64 ((Int.tmod t129 8192) * 8)), .int .i64 (wrap64 (rd l0 8)), .int .i64 (wrap64 (rd l0 9)), .int .i64 t136, .int .i64 t138, .slice none 0 0, .slice none 0 0]) ?_ 9 _ rfl; (with_reducible repeat (first | refine blk_drewN ?_ _ | refine blk_drew ?_ | refine blk_alloc ?_ _)); refine blk_put (cs := #[.int .i64 (wrap64 (rd l0 1)), .int .i64 t132, .bool ((Go.bits .and .i64 t129 16384) != 0), .bool ((Go.bits .and .i64 t129 8192) != 0), .int .i64 (wrap64 ((Int.tmod t129 8192) * 8)), .int .i64 (wrap64 (rd l0 8)), .int .i64 (wrap64 (rd l0 9)), .int .i64 t136, .int .i64 0, .slice none 0 0, .slice none 0 0]) ?_ 8 _ rfl; (with_reducible repeat (first | refine blk_drewN ?_ _ | refine blk_drew ?_ | refine blk_alloc ?_ _)); refine blk_put (cs := #[.int .i64 (wrap64 (rd l0 1)), .int .i64 t132, .bool ((Go.bits .and .i64 t129 16384) != 0), .bool ((Go.bits .and .i64 t129 8192) != 0), .int .i64 (wrap64 ((Int.tmod t129 8192) * 8)), .int .i64 (wrap64 (rd l0 8)), .int .i64 (wrap64 (rd l0 9)), .int .i64 0, .int .i64 0, .slice none 0 0, .slice none 0 0]) ?_ 7 _ rfl; (with_reducible repeat (first | refine blk_drewN ?_ _ | refine blk_drew ?_ | refine blk_alloc ?_ _)); refine blk_put (cs := #[.int .i64 (wrap64 (rd l0 1)), .int .i64 t132, .bool ((Go.bits .and .i64 t129 16384) != 0), .bool ((Go.bits .and .i64 t129 8192) != 0), .int .i64 (wrap64 ((Int.tmod t129 8192) * 8)), .int .i64 (wrap64 (rd l0 8)), .int .i64 0, .int .i64 0, .int .i64 0, .slice none 0 0, .slice none 0 0]) ?_ 6 _ rfl; (with_reducible repeat (first | refine blk_drewN ?_ _ | refine blk_drew ?_ | refine blk_alloc ?_ _)); refine blk_put (cs := #[.int .i64 (wrap64 (rd l0 1)), .int .i64 t132, .bool ((Go.bits .and .i64 t129 16384) != 0), .bool ((Go.bits .and .i64 t129 8192) != 0), .int .i64 (wrap64 ((Int.tmod t129 8192) * 8)), .int .i64 0, .int .i64 0, .int .i64 0, .int .i64 0, .slice none 0 0, .slice none 0 0]) ?_ 5 _ rfl; (with_reducible repeat (first | refine blk_drewN ?_ _ | refine blk_drew ?_ | refine blk_alloc ?_ _)); refine blk_put (cs := #[.int .i64 (wrap64 (rd l0 1)), .int .i64 t132, .bool ((Go.bits .and .i64 t129 16384) != 0), .bool ((Go.bits .and .i64 t129 8192) != 0), .int .i64 0, .int .i64 0, .int .i64 0, .int .i64 0, .int .i64 0, .slice none 0 0, .slice none 0 0]) ?_ 4 _ rfl; (with_reducible repeat (first | refine blk_drewN ?_ _ | refine blk_drew ?_ | refine blk_alloc ?_ _)); refine blk_put (cs := #[.int .i64 (wrap64 (rd l0 1)), .int .i64 t132, .bool ((Go.bits .and .i64 t129 16384) != 0), .bool false, .int .i64 0, .int .i64 0, .int .i64 0, .int .i64 0, .int .i64 0, .slice none 0 0, .slice none 0 0]) ?_ 3 _ rfl; (with_reducible repeat (first | refine blk_drewN ?_ _ | refine blk_drew ?_ | refine blk_alloc ?_ _)); refine blk_put (cs := #[.int .i64 (wrap64 (rd l0 1)), .int .i64 t132, .bool false, .bool false, .int .i64 0, .int .i64 0, .int .i64 0, .int .i64 0, .int .i64 0, .slice none 0 0, .slice none 0 0]) ?_ 2 _ rfl; (with_reducible repeat (first | refine blk_drewN ?_ _ | refine blk_drew ?_ | refine blk_alloc ?_ _)); refine blk_put (cs := #[.int .i64 (wrap64 (rd l0 1)), .int .i64 0, .bool false, .bool false, .int .i64 0, .int .i64 0, .int .i64 0, .int .i64 0, .int .i64 0, .slice none 0 0, .slice none 0 0]) ?_ 1 _ rfl; (with_reducible repeat (first | refine blk_drewN ?_ _ | refine blk_drew ?_ | refine blk_alloc ?_ _)); refine blk_put (cs := #[.int .i64 0, .int .i64 0, .bool false, .bool false, .int .i64 0, .int .i64 0, .int .i64 0, .int .i64 0, .int .i64 0, .slice none 0 0, .slice none 0 0]) ?_ 0 _ rfl; (with_reducible repeat (first | refine blk_drewN ?_ _ | refine blk_drew ?_ | refine blk_alloc ?_ _)); refine blk_far ?_ NB123_147.out _; (with_reducible repeat (first | refine blk_drewN ?_ _ | refine blk_drew ?_ | refine blk_alloc ?_ _)); refine blk_far ?_ NB123_147.out _; (with_reducible repeat (first | refine blk_drewN ?_ _ | refine blk_drew ?_ | refine blk_alloc ?_ _)); refine blk_far ?_ NB123_147.out _; (with_reducible repeat (first | refine blk_drewN ?_ _ | refine blk_drew ?_ | refine blk_alloc ?_ _)); refine blk_far ?_ NB123_147.out _; (with_reducible repeat (first | refine blk_drewN ?_ _ | refine blk_drew ?_ | refine blk_alloc ?_ _)); refine blk_far ?_ NB123_147.out _; (with_reducible repeat (first | refine blk_drewN ?_ _ | refine blk_drew ?_ | refine blk_alloc ?_ _)); refine blk_far ?_ NB123_147.out _; (with_reducible repeat (first | refine blk_drewN ?_ _ | refine blk_drew ?_ | refine blk_alloc ?_ _)); refine blk_far ?_ NB123_147.out _; (with_reducible repeat (first | refine blk_drewN ?_ _ | refine blk_drew ?_ | refine blk_alloc ?_ _)); refine blk_far ?_ NB123_147.out _; (with_reducible repeat (first | refine blk_drewN ?_ _ | refine blk_drew ?_ | refine blk_alloc ?_ _)); refine blk_far ?_ NB123_147.out _; (with_reducible repeat (first | refine blk_drewN ?_ _ | refine blk_drew ?_ | refine blk_alloc ?_ _)); refine blk_far ?_ NB123_147.out _; (with_reducible repeat (first | refine blk_drewN ?_ _ | refine blk_drew ?_ | refine blk_alloc ?_ _)); refine blk_far ?_ NB123_147.out _; (with_reducible repeat (first | refine blk_drewN ?_ _ | refine blk_drew ?_ | refine blk_alloc ?_ _)); exact BK123.out))⟩; have n3_ : Aside0 (w2030.heap[gb147]? = some (.cells #[.int .i64 (wrap64 (rd l0 1)), .int .i64 t132, .bool ((Go.bits .and .i64 t129 16384) != 0), .bool ((Go.bits .and .i64 t129 8192) != 0), .int .i64 (wrap64 ((Int.tmod t129 8192) * 8)), .int .i64 (wrap64 (rd l0 8)), .int .i64 (wrap64 (rd l0 9)), .int .i64 t136, .int .i64 t138, .slice Ao2015 t140.length co2015, .slice Ao2014 t144.length co2014] 51 (0, 0))) := ⟨(by rw [hw]; exact (by (with_reducible repeat (first | refine blk_drewN ?_ _ | refine blk_drew ?_ | refine blk_alloc ?_ _)); refine blk_far ?_ NB147_123.out _; (with_reducible repeat (first | refine blk_drewN ?_ _ | refine blk_drew ?_ | refine blk_alloc ?_ _)); refine blk_far ?_ NB147_123.out _; (with_reducible repeat (first | refine blk_drewN ?_ _ | refine blk_drew ?_ | refine blk_alloc ?_ _)); refine blk_far ?_ NB147_123.out _; (with_reducible repeat (first | refine blk_drewN ?_ _ | refine blk_drew ?_ | refine blk_alloc ?_ _)); refine blk_far ?_ NB147_123.out _; (with_reducible repeat (first | refine blk_drewN ?_ _ | refine blk_drew ?_ | refine blk_alloc ?_ _)); refine blk_far ?_ NB147_123.out _; (with_reducible repeat (first | refine blk_drewN ?_ _ | refine blk_drew ?_ | refine blk_alloc ?_ _)); refine blk_far ?_ NB147_123.out _; (with_reducible repeat (first | refine blk_drewN ?_ _ | refine blk_drew ?_ | refine blk_alloc ?_ _)); refine blk_far ?_ NB147_123.out _; (with_reducible repeat (first | refine blk_drewN ?_ _ | refine blk_drew ?_ | refine blk_alloc ?_ _)); refine blk_far ?_ NB147_123.out _; (with_reducible repeat (first | refine blk_drewN ?_ _ | refine blk_drew ?_ | refine blk_alloc ?_ _)); refine blk_far ?_ NB147_123.out _; (with_reducible repeat (first | refine blk_drewN ?_ _ | refine blk_drew ?_ | refine blk_alloc ?_ _)); refine blk_far ?_ NB147_123.out _; (with_reducible repeat (first | refine blk_drewN ?_ _ | refine blk_drew ?_ | refine blk_alloc ?_ _)); refine blk_far ?_ NB147_123.out _; (with_reducible repeat (first | refine blk_drewN ?_ _ | refine blk_drew ?_ | refine blk_alloc ?_ _)); refine blk_put (cs := #[.int .i64 (wrap64 (rd l0 1)), .int .i64 t132, .bool ((Go.bits .and .i64 t129 16384) != 0), .bool ((Go.bits .and .i64 t129 8192) != 0), .int .i64 (wrap64 ((Int.tmod t129 8192) * 8)), .int .i64 (wrap64 (rd l0 8)), .int .i64 (wrap64 (rd l0 9)), .int .i64 t136, .int .i64 t138, .slice Ao2015 t140.length co2015, .slice none 0 0]) ?_ 10 _ rfl; (with_reducible repeat (first | refine blk_drewN ?_ _ | refine blk_drew ?_ | refine blk_alloc ?_ _)); refine blk_put (cs := #[.int .i64 (wrap64 (rd l0 1)), .int .i64 t132, .bool ((Go.bits .and .i64 t129 16384) != 0), .bool ((Go.bits .and .i64 t129 8192) != 0), .int .i64 (wrap64 ((Int.tmod t129 8192) * 8)), .int .i64 (wrap64 (rd l0 8)), .int .i64 (wrap64 (rd l0 9)), .int .i64 t136, .int .i64 t138, .slice none 0 0, .slice none 0 0]) ?_ 9 _ rfl; (with_reducible repeat (first | refine blk_drewN ?_ _ | refine blk_drew ?_ | refine blk_alloc ?_ _)); refine blk_put (cs := #[.int .i64 (wrap64 (rd l0 1)), .int .i64 t132, .bool ((Go.bits .and .i64 t129 16384) != 0), .bool ((Go.bits .and .i64 t129 8192) != 0), .int .i64 (wrap64 ((Int.tmod t129 8192) * 8)), .int .i64 (wrap64 (rd l0 8)), .int .i64 (wrap64 (rd l0 9)), .int .i64 t136, .int .i64 0, .slice none 0 0, .slice none 0 0]) ?_ 8 _ rfl; (with_reducible repeat (first | refine blk_drewN ?_ _ | refine blk_drew ?_ | refine blk_alloc ?_ _)); refine blk_put (cs := #[.int .i64 (wrap64 (rd l0 1)), .int .i64 t132, .bool ((Go.bits .and .i64 t129 16384) != 0), .bool ((Go.bits .and .i64 t129 8192) != 0), .int .i64 (wrap64 ((Int.tmod t129 8192) * 8)), .int .i64 (wrap64 (rd l0 8)), .int .i64 (wrap64 (rd l0 9)), .int .i64 0, .int .i64 0, .slice none 0 0, .slice none 0 0]) ?_ 7 _ rfl; (with_reducible repeat (first | refine blk_drewN ?_ _ | refine blk_drew ?_ | refine blk_alloc ?_ _)); refine blk_put (cs := #[.int .i64 (wrap64 (rd l0 1)), .int .i64 t132, .bool ((Go.bits .and .i64 t129 16384) != 0), .bool ((Go.bits .and .i64 t129 8192) != 0), .int .i64 (wrap64 ((Int.tmod t129 8192) * 8)), .int .i64 (wrap64 (rd l0 8)), .int .i64 0, .int .i64 0, .int .i64 0, .slice none 0 0, .slice none 0 0]) ?_ 6 _ rfl; (with_reducible repeat (first | refine blk_drewN ?_ _ | refine blk_drew ?_ | refine blk_alloc ?_ _)); refine blk_put (cs := #[.int .i64 (wrap64 (rd l0 1)), .int .i64 t132, .bool ((Go.bits .and .i64 t129 16384) != 0), .bool ((Go.bits .and .i64 t129 8192) != 0), .int .i64 (wrap64 ((Int.tmod t129 8192) * 8)), .int .i64 0, .int .i64 0, .int .i64 0, .int .i64 0, .slice none 0 0, .slice none 0 0]) ?_ 5 _ rfl; (with_reducible repeat (first | refine blk_drewN ?_ _ | refine blk_drew ?_ | refine blk_alloc ?_ _)); refine blk_put (cs := #[.int .i64 (wrap64 (rd l0 1)), .int .i64 t132, .bool ((Go.bits .and .i64 t129 16384) != 0), .bool ((Go.bits .and .i64 t129 8192) != 0), .int .i64 0, .int .i64 0, .int .i64 0, .int .i64 0, .int .i64 0, .slice none 0 0, .slice none 0 0]) ?_ 4 _ rfl; (with_reducible repeat (first | refine blk_drewN ?_ _ | refine blk_drew ?_ | refine blk_alloc ?_ _)); refine blk_put (cs := #[.int .i64 (wrap64 (rd l0 1)), .int .i64 t132, .bool ((Go.bits .and .i64 t129 16384) != 0), .bool false, .int .i64 0, .int .i64 0, .int .i64 0, .int .i64 0, .int .i64 0, .slice none 0 0, .slice none 0 0]) ?_ 3 _ rfl; (with_reducible repeat (first | refine blk_drewN ?_ _ | refine blk_drew ?_ | refine blk_alloc ?_ _)); refine blk_put (cs := #[.int .i64 (wrap64 (rd l0 1)), .int .i64 t132, .bool false, .bool false, .int .i64 0, .int .i64 0, .int .i64 0, .int .i64 0, .int .i64 0, .slice none 0 0, .slice none 0 0]) ?_ 2 _ rfl; (with_reducible repeat (first | refine blk_drewN ?_ _ | refine blk_drew ?_ | refine blk_alloc ?_ _)); refine blk_put (cs := #[.int .i64 (wrap64 (rd l0 1)), .int .i64 0, .bool false, .bool false, .int .i64 0, .int .i64 0, .int .i64 0, .int .i64 0, .int .i64 0, .slice none 0 0, .slice none 0 0]) ?_ 1 _ rfl; (with_reducible repeat (first | refine blk_drewN ?_ _ | refine blk_drew ?_ | refine blk_alloc ?_ _)); refine blk_put (cs := #[.int .i64 0, .int .i64 0, .bool false, .bool false, .int .i64 0, .int .i64 0, .int .i64 0, .int .i64 0, .int .i64 0, .slice none 0 0, .slice none 0 0]) ?_ 0 _ rfl; (with_reducible repeat (first | refine blk_drewN ?_ _ | refine blk_drew ?_ | refine blk_alloc ?_ _)); exact BK147.out))⟩; have n4_ : Aside0 (Below w.heap.size w w2030) := ⟨(by rw [hw]; exact wB)⟩; clear hw; clear HO142; clear HO146; clear BK123; clear BK147; clear HB; have HO142 := n0_; have HO146 := n1_; have BK123 := n2_; have BK147 := n3_; have HB := n4_; clear n0_ n1_ n2_ n3_ n4_))
 refine bodyPost_ret (results_ct rfl _ _ gb123 51 #[.int .i64 (wrap64 (rd l0 1)), .int .i64 t132, .bool ((Go.bits .and .i64 t129 16384) != 0), .bool ((Go.bits .and .i64 t129 8192) != 0), .int .i64 (wrap64 ((Int.tmod t129 8192) * 8)), .int .i64 (wrap64 (rd l0 8)), .int .i64 (wrap64 (rd l0 9)), .int .i64 t136, .int .i64 t138, .slice Ao2015 t140.length co2015, .slice Ao2014 t144.length co2014] (0, 0) _ rfl (Bh BK123) Try.underlying51 rfl (by kernel_rfl)) rfl ?_
 exact ⟨_, _, by first | rfl | (simp [errW_none, errW_some] <;> rfl) | (simp [*, errW_none, errW_some] <;> rfl), by (with_reducible repeat (first | apply Kd.R_alloc | apply Kd.R_drewN | apply Kd.R_drew)); exact HO142.out, by (with_reducible repeat (first | apply Kd.R_alloc | apply Kd.R_drewN | apply Kd.R_drew)); exact HO146.out, wB⟩
 }
 {
 have hnb2027 := NB123_147.out
 have hnc2027 := NB147_123.out
 obtain ⟨⟨hcz2028_0, hcz2028_1, hcz2028_2, hcz2028_3, hcz2028_4, hcz2028_5, hcz2028_6, hcz2028_7, hcz2028_8, hcz2028_9, hcz2028_10⟩, hfz2028_0, hfz2028_1, hfz2028_2, hfz2028_3, hfz2028_4, hfz2028_5, hfz2028_6, hfz2028_7, hfz2028_8, hfz2028_9, hfz2028_10⟩ := cells11 BK123.out
 try go_wp2_with (first | ((with_reducible refine gate_store (t := 51) (p := 2) rfl ?_); (try (rw [drewN_self w2013]; generalize hq_ : World.drewN w2013 _ = w2013; have n0_ := Aside0.mk (Kd.R_at hq_ HO142.out); have n1_ := Aside0.mk (Kd.R_at hq_ HO146.out); have n2_ := Aside0.mk (blk_at hq_ BK123.out); have n3_ := Aside0.mk (blk_at hq_ BK147.out); have n4_ := Aside0.mk (below_at hq_ HB.out); clear hq_ HO142 HO146 BK123 BK147 HB; have HO142 := n0_; have HO146 := n1_; have BK123 := n2_; have BK147 := n3_; have HB := n4_; clear n0_ n1_ n2_ n3_ n4_; (try (obtain ⟨⟨hcyBK123_0, hcyBK123_1, hcyBK123_2, hcyBK123_3, hcyBK123_4, hcyBK123_5, hcyBK123_6, hcyBK123_7, hcyBK123_8, hcyBK123_9, hcyBK123_10⟩, hfyBK123_0, hfyBK123_1, hfyBK123_2, hfyBK123_3, hfyBK123_4, hfyBK123_5, hfyBK123_6, hfyBK123_7, hfyBK123_8, hfyBK123_9, hfyBK123_10⟩ := cells11 BK123.out)); (try (obtain ⟨⟨hcyBK147_0, hcyBK147_1, hcyBK147_2, hcyBK147_3, hcyBK147_4, hcyBK147_5, hcyBK147_6, hcyBK147_7, hcyBK147_8, hcyBK147_9, hcyBK147_10⟩, hfyBK147_0, hfyBK147_1, hfyBK147_2, hfyBK147_3, hfyBK147_4, hfyBK147_5, hfyBK147_6, hfyBK147_7, hfyBK147_8, hfyBK147_9, hfyBK147_10⟩ := cells11 BK147.out)))); refine store_event (t := 51) (p := 2) (v := ?_) (w1 := ((((((((((((((((((((((w2013.setCell ⟨gb147, 0, none⟩ (.int .i64 (wrap64 (rd l0 1)))).setCell ⟨gb147, 1, none⟩ (.int .i64 t132)).setCell ⟨gb147, 2, none⟩ (.bool ((Go.bits .and .i64 t129 16384) != 0))).setCell ⟨gb147, 3, none⟩ (.bool ((Go.bits .and .i64 t129 8192) != 0))).setCell ⟨gb147, 4, none⟩ (.int .i64 (wrap64 ((Int.tmod t129 8192) * 8)))).setCell ⟨gb147, 5, none⟩ (.int .i64 (wrap64 (rd l0 8)))).setCell ⟨gb147, 6, none⟩ (.int .i64 (wrap64 (rd l0 9)))).setCell ⟨gb147, 7, none⟩ (.int .i64 t136)).setCell ⟨gb147, 8, none⟩ (.int .i64 t138)).setCell ⟨gb147, 9, none⟩ (.slice Ao2015 t140.length co2015)).setCell ⟨gb147, 10, none⟩ (.slice Ao2014 t144.length co2014)).setCell ⟨gb123, 0, none⟩ (.int .i64 0)).setCell ⟨gb123, 1, none⟩ (.int .i64 0)).setCell ⟨gb123, 2, none⟩ (.bool false)).setCell ⟨gb123, 3, none⟩ (.bool false)).setCell ⟨gb123, 4, none⟩ (.int .i64 0)).setCell ⟨gb123, 5, none⟩ (.int .i64 0)).setCell ⟨gb123, 6, none⟩ (.int .i64 0)).setCell ⟨gb123, 7, none⟩ (.int .i64 0)).setCell ⟨gb123, 8, none⟩ (.int .i64 0)).setCell ⟨gb123, 9, none⟩ (.slice none 0 0)).setCell ⟨gb123, 10, none⟩ (.slice none 0 0))) ?hg ?ho ?hn ?hr ?_; (case ho => rfl); (case hg => rfl); (case hn => rfl); (case hr => first | (go_simp; done) | (go_simp; rfl)); intro w2029 hw; have n0_ : Aside0 (Kd.R (Kd.int .u8) 5 w2029 w.heap.size (fun k_ => some k_ ≠ (.slice Ao2014 t144.length co2014 : Value).ownBlock) (.slice Ao2015 t140.length co2015) t140) := ⟨(by rw [hw]; exact (by (with_reducible repeat (first | apply Kd.R_alloc | apply Kd.R_drewN | apply Kd.R_drew)); exact Kd.R_mono (Kd.R_far (p := ⟨gb123, 10, none⟩) (Kd.R_far (p := ⟨gb123, 9, none⟩) (Kd.R_far (p := ⟨gb123, 8, none⟩) (Kd.R_far (p := ⟨gb123, 7, none⟩) (Kd.R_far (p := ⟨gb123, 6, none⟩) (Kd.R_far (p := ⟨gb123, 5, none⟩) (Kd.R_far (p := ⟨gb123, 4, none⟩) (Kd.R_far (p := ⟨gb123, 3, none⟩) (Kd.R_far (p := ⟨gb123, 2, none⟩) (Kd.R_far (p := ⟨gb123, 1, none⟩) (Kd.R_far (p := ⟨gb123, 0, none⟩) (Kd.R_far (p := ⟨gb147, 10, none⟩) (Kd.R_far (p := ⟨gb147, 9, none⟩) (Kd.R_far (p := ⟨gb147, 8, none⟩) (Kd.R_far (p := ⟨gb147, 7, none⟩) (Kd.R_far (p := ⟨gb147, 6, none⟩) (Kd.R_far (p := ⟨gb147, 5, none⟩) (Kd.R_far (p := ⟨gb147, 4, none⟩) (Kd.R_far (p := ⟨gb147, 3, none⟩) (Kd.R_far (p := ⟨gb147, 2, none⟩) (Kd.R_far (p := ⟨gb147, 1, none⟩) (Kd.R_far (p := ⟨gb147, 0, none⟩) (Kd.R_types (Kd.R_types HO142.out BK147.out (by decide)) BK123.out (by decide)) (fun _ hk => hk.1.2) (.int .i64 (wrap64 (rd l0 1)))) (fun _ hk => hk.1.2) (.int .i64 t132)) (fun _ hk => hk.1.2) (.bool ((Go.bits .and .i64 t129 16384) != 0))) (fun _ hk => hk.1.2) (.bool ((Go.bits .and .i64 t129 8192) != 0))) (fun _ hk => hk.1.2) (.int .i64 (wrap64 ((Int.tmod t129 8192) * 8)))) (fun _ hk => hk.1.2) (.int .i64 (wrap64 (rd l0 8)))) (fun _ hk => hk.1.2) (.int .i64 (wrap64 (rd l0 9)))) (fun _ hk => hk.1.2) (.int .i64 t136)) (fun _ hk => hk.1.2) (.int .i64 t138)) (fun _ hk => hk.1.2) (.slice Ao2015 t140.length co2015)) (fun _ hk => hk.1.2) (.slice Ao2014 t144.length co2014)) (fun _ hk => hk.2) (.int .i64 0)) (fun _ hk => hk.2) (.int .i64 0)) (fun _ hk => hk.2) (.bool false)) (fun _ hk => hk.2) (.bool false)) (fun _ hk => hk.2) (.int .i64 0)) (fun _ hk => hk.2) (.int .i64 0)) (fun _ hk => hk.2) (.int .i64 0)) (fun _ hk => hk.2) (.int .i64 0)) (fun _ hk => hk.2) (.int .i64 0)) (fun _ hk => hk.2) (.slice none 0 0)) (fun _ hk => hk.2) (.slice none 0 0)) (fun _ hk => hk.1.1)))⟩; have n1_ : Aside0 (Kd.R (Kd.int .u8) 5 w2029 w.heap.size (fun k_ => some k_ ≠ (.slice Ao2015 t140.length co2015 : Value).ownBlock) (.slice Ao2014 t144.length co2014) t144) := ⟨(by rw [hw]; exact (by (with_reducible repeat (first | apply Kd.R_alloc | apply Kd.R_drewN | apply Kd.R_drew)); exact Kd.R_mono (Kd.R_far (p := ⟨gb123, 10, none⟩) (Kd.R_far (p := ⟨gb123, 9, none⟩) (Kd.R_far (p := ⟨gb123, 8, none⟩) (Kd.R_far (p := ⟨gb123, 7, none⟩) (Kd.R_far (p := ⟨gb123, 6, none⟩) (Kd.R_far (p := ⟨gb123, 5, none⟩) (Kd.R_far (p := ⟨gb123, 4, none⟩) (Kd.R_far (p := ⟨gb123, 3, none⟩) (Kd.R_far (p := ⟨gb123, 2, none⟩) (Kd.R_far (p := ⟨gb123, 1, none⟩) (Kd.R_far (p := ⟨gb123, 0, none⟩) (Kd.R_far (p := ⟨gb147, 10, none⟩) (Kd.R_far (p := ⟨gb147, 9, none⟩) (Kd.R_far (p := ⟨gb147, 8, none⟩) (Kd.R_far (p := ⟨gb147, 7, none⟩) (Kd.R_far (p := ⟨gb147, 6, none⟩) (Kd.R_far (p := ⟨gb147, 5, none⟩) (Kd.R_far (p := ⟨gb147, 4, none⟩) (Kd.R_far (p := ⟨gb147, 3, none⟩) (Kd.R_far (p := ⟨gb147, 2, none⟩) (Kd.R_far (p := ⟨gb147, 1, none⟩) (Kd.R_far (p := ⟨gb147, 0, none⟩) (Kd.R_types (Kd.R_types HO146.out BK147.out (by decide)) BK123.out (by decide)) (fun _ hk => hk.1.2) (.int .i64 (wrap64 (rd l0 1)))) (fun _ hk => hk.1.2) (.int .i64 t132)) (fun _ hk => hk.1.2) (.bool ((Go.bits .and .i64 t129 16384) != 0))) (fun _ hk => hk.1.2) (.bool ((Go.bits .and .i64 t129 8192) != 0))) (fun _ hk => hk.1.2) (.int .i64 (wrap64 ((Int.tmod t129 8192) * 8)))) (fun _ hk => hk.1.2) (.int .i64 (wrap64 (rd l0 8)))) (fun _ hk => hk.1.2) (.int .i64 (wrap64 (rd l0 9)))) (fun _ hk => hk.1.2) (.int .i64 t136)) (fun _ hk => hk.1.2) (.int .i64 t138)) (fun _ hk => hk.1.2) (.slice Ao2015 t140.length co2015)) (fun _ hk => hk.1.2) (.slice Ao2014 t144.length co2014)) (fun _ hk => hk.2) (.int .i64 0)) (fun _ hk => hk.2) (.int .i64 0)) (fun _ hk => hk.2) (.bool false)) (fun _ hk => hk.2) (.bool false)) (fun _ hk => hk.2) (.int .i64 0)) (fun _ hk => hk.2) (.int .i64 0)) (fun _ hk => hk.2) (.int .i64 0)) (fun _ hk => hk.2) (.int .i64 0)) (fun _ hk => hk.2) (.int .i64 0)) (fun _ hk => hk.2) (.slice none 0 0)) (fun _ hk => hk.2) (.slice none 0 0)) (fun _ hk => hk.1.1)))⟩; have n2_ : Aside0 (w2029.heap[gb123]? = some (.cells #[.int .i64 0, .int .i64 0, .bool false, .bool false, .int .i64 0, .int .i64 0, .int .i64 0, .int .i64 0, .int .i64 0, .slice none 0 0, .slice none 0 0] 51 (0, 0))) := ⟨(by rw [hw]; exact (by (with_reducible repeat (first | refine blk_drewN ?_ _ | refine blk_drew ?_ | refine blk_alloc ?_ _)); refine blk_put (cs := #[.int .i64 0, .int .i64 0, .bool false, .bool false, .int .i64 0, .int .i64 0, .int .i64 0, .int .i64 0, .int .i64 0, .slice none 0 0, .slice none 0 0]) ?_ 10 _ rfl; (with_reducible repeat (first | refine blk_drewN ?_ _ | refine blk_drew ?_ | refine blk_alloc ?_ _)); refine blk_put (cs := #[.int .i64 0, .int .i64 0, .bool false, .bool false, .int .i64 0, .int .i64 0, .int .i64 0, .int .i64 0, .int .i64 0, .slice none 0 0, .slice none 0 0]) ?_ 9 _ rfl; (with_reducible repeat (first | refine blk_drewN ?_ _ | refine blk_drew ?_ | refine blk_alloc ?_ _)); refine blk_put (cs := #[.int .i64 0, .int .i64 0, .bool false, .bool false, .int .i64 0, .int .i64 0, .int .i64 0, .int .i64 0, .int .i64 0, .slice none 0 0, .slice none 0 0]) ?_ 8 _ rfl; (with_reducible repeat (first | refine blk_drewN ?_ _ | refine blk_drew ?_ | refine blk_alloc ?_ _)); refine blk_put (cs := #[.int .i64 0, .int .i64 0, .bool false, .bool false, .int .i64 0, .int .i64 0, .int .i64 0, .int .i64 0, .int .i64 0, .slice none 0 0, .slice none 0 0]) ?_ 7 _ rfl; (with_reducible repeat (first | refine blk_drewN ?_ _ | refine blk_drew ?_ | refine blk_alloc ?_ _)); refine blk_put (cs := #[.int .i64 0, .int .i64 0, .bool false, .bool false, .int .i64 0, .int .i64 0, .int .i64 0, .int .i64 0, .int .i64 0, .slice none 0 0, .slice none 0 0]) ?_ 6 _ rfl; (with_reducible repeat (first | refine blk_drewN ?_ _ | refine blk_drew ?_ | refine blk_alloc ?_ _)); refine blk_put (cs := #[.int .i64 0, .int .i64 0, .bool false, .bool false, .int .i64 0, .int .i64 0, .int .i64 0, .int .i64 0, .int .i64 0, .slice none 0 0, .slice none 0 0]) ?_ 5 _ rfl; (with_reducible repeat (first | refine blk_drewN ?_ _ | refine blk_drew ?_ | refine blk_alloc ?_ _)); refine blk_put (cs := #[.int .i64 0, .int .i64 0, .bool false, .bool false, .int .i64 0, .int .i64 0, .int .i64 0, .int .i64 0, .int .i64 0, .slice none 0 0, .slice none 0 0]) ?_ 4 _ rfl; (with_reducible repeat (first | refine blk_drewN ?_ _ | refine blk_drew ?_ | refine blk_alloc ?_ _)); refine blk_put (cs := #[.int .i64 0, .int .i64 0, .bool false, .bool false, .int .i64 0, .int .i64 0, .int .i64 0, .int .i64 0, .int .i64 0, .slice none 0 0, .slice none 0 0]) ?_ 3 _ rfl; (with_reducible repeat (first | refine blk_drewN ?_ _ | refine blk_drew ?_ | refine blk_alloc ?_ _)); refine blk_put (cs := #[.int .i64 0, .int .i64 0, .bool false, .bool false, .int .i64 0, .int .i64 0, .int .i64 0, .int .i64 0, .int .i64 0, .slice none 0 0, .slice none 0 0]) ?_ 2 _ rfl; (with_reducible repeat (first | refine blk_drewN ?_ _ | refine blk_drew ?_ | refine blk_alloc ?_ _)); refine blk_put (cs := #[.int .i64 0, .int .i64 0, .bool false, .bool false, .int .i64 0, .int .i64 0, .int .i64 0, .int .i64 0, .int .i64 0, .slice none 0 0, .slice none 0 0]) ?_ 1 _ rfl; (with_reducible repeat (first | refine blk_drewN ?_ _ | refine blk_drew ?_ | refine blk_alloc ?_ _)); refine blk_put (cs := #[.int .i64 0, .int .i64 0, .bool false, .bool false, .int .i64 0, .int .i64 0, .int .i64 0, .int .i64 0, .int .i64 0, .slice none 0 0, .slice none 0 0]) ?_ 0 _ rfl; (with_reducible repeat (first | refine blk_drewN ?_ _ | refine blk_drew ?_ | refine blk_alloc ?_ _)); refine blk_far ?_ NB123_147.out _; (with_reducible repeat (first | refine blk_drewN ?_ _ | refine blk_drew ?_ | refine blk_alloc ?_ _)); refine blk_far ?_ NB123_147.out _; (with_reducible repeat (first | refine blk_drewN ?_ _ | refine blk_drew ?_ | refine blk_alloc ?_ _)); refine blk_far ?_ NB123_147.out _; (with_reducible repeat (first | refine blk_drewN ?_ _ | refine blk_drew ?_ | refine blk_alloc ?_ _)); refine blk_far ?_ NB123_147.out _; (with_reducible repeat (first | refine blk_drewN ?_ _ | refine blk_drew ?_ | refine blk_alloc ?_ _)); refine blk_far ?_ NB123_147.out _; (with_reducible repeat (first | refine blk_drewN ?_ _ | refine blk_drew ?_ | refine blk_alloc ?_ _)); refine blk_far ?_ NB123_147.out _; (with_reducible repeat (first | refine blk_drewN ?_ _ | refine blk_drew ?_ | refine blk_alloc ?_ _)); refine blk_far ?_ NB123_147.out _; (with_reducible repeat (first | refine blk_drewN ?_ _ | refine blk_drew ?_ | refine blk_alloc ?_ _)); refine blk_far ?_ NB123_147.out _; (with_reducible repeat (first | refine blk_drewN ?_ _ | refine blk_drew ?_ | refine blk_alloc ?_ _)); refine blk_far ?_ NB123_147.out _; (with_reducible repeat (first | refine blk_drewN ?_ _ | refine blk_drew ?_ | refine blk_alloc ?_ _)); refine blk_far ?_ NB123_147.out _; (with_reducible repeat (first | refine blk_drewN ?_ _ | refine blk_drew ?_ | refine blk_alloc ?_ _)); refine blk_far ?_ NB123_147.out _; (with_reducible repeat (first | refine blk_drewN ?_ _ | refine blk_drew ?_ | refine blk_alloc ?_ _)); exact BK123.out))⟩; have n3_ : Aside0 (w2029.heap[gb147]? = some (.cells #[.int .i64 (wrap64 (rd l0 1)), .int .i64 t132, .bool ((Go.bits .and .i64 t129 16384) != 0), .bool ((Go.bits .and .i64 t129 8192) != 0), .int .i64 (wrap64 ((Int.tmod t129 8192) * 8)), .int .i64 (wrap64 (rd l0 8)), .int .i64 (wrap64 (rd l0 9)), .int .i64 t136, .int .i64 t138, .slice Ao2015 t140.length co2015, .slice Ao2014 t144.length co2014] 51 (0, 0))) := ⟨(by rw [hw]; exact (by (with_reducible repeat (first | refine blk_drewN ?_ _ | refine blk_drew ?_ | refine blk_alloc ?_ _)); refine blk_far ?_ NB147_123.out _; (with_reducible repeat (first | refine blk_drewN ?_ _ | refine blk_drew ?_ | refine blk_alloc ?_ _)); refine blk_far ?_ NB147_123.out _; (with_reducible repeat (first | refine blk_drewN ?_ _ | refine blk_drew ?_ | refine blk_alloc ?_ _)); refine blk_far ?_ NB147_123.out _; (with_reducible repeat (first | refine blk_drewN ?_ _ | refine blk_drew ?_ | refine blk_alloc ?_ _)); refine blk_far ?_ NB147_123.out _; (with_reducible repeat (first | refine blk_drewN ?_ _ | refine blk_drew ?_ | refine blk_alloc ?_ _)); refine blk_far ?_ NB147_123.out _; (with_reducible repeat (first | refine blk_drewN ?_ _ | refine blk_drew ?_ | refine blk_alloc ?_ _)); refine blk_far ?_ NB147_123.out _; (with_reducible repeat (first | refine blk_drewN ?_ _ | refine blk_drew ?_ | refine blk_alloc ?_ _)); refine blk_far ?_ NB147_123.out _; (with_reducible repeat (first | refine blk_drewN ?_ _ | refine blk_drew ?_ | refine blk_alloc ?_ _)); refine blk_far ?_ NB147_123.out _; (with_reducible repeat (first | refine blk_drewN ?_ _ | refine blk_drew ?_ | refine blk_alloc ?_ _)); refine blk_far ?_ NB147_123.out _; (with_reducible repeat (first | refine blk_drewN ?_ _ | refine blk_drew ?_ | refine blk_alloc ?_ _)); refine blk_far ?_ NB147_123.out _; (with_reducible repeat (first | refine blk_drewN ?_ _ | refine blk_drew ?_ | refine blk_alloc ?_ _)); refine blk_far ?_ NB147_123.out _; (with_reducible repeat (first | refine blk_drewN ?_ _ | refine blk_drew ?_ | refine blk_alloc ?_ _)); refine blk_put (cs := #[.int .i64 (wrap64 (rd l0 1)), .int .i64 t132, .bool ((Go.bits .and .i64 t129 16384) != 0), .bool ((Go.bits .and .i64 t129 8192) != 0), .int .i64 (wrap64 ((Int.tmod t129 8192) * 8)), .int .i64 (wrap64 (rd l0 8)), .int .i64 (wrap64 (rd l0 9)), .int .i64 t136, .int .i64 t138, .slice Ao2015 t140.length co2015, .slice none 0 0]) ?_ 10 _ rfl; (with_reducible repeat (first | refine blk_drewN ?_ _ | refine blk_drew ?_ | refine blk_alloc ?_ _)); refine blk_put (cs := #[.int .i64 (wrap64 (rd l0 1)), .int .i64 t132, .bool ((Go.bits .and .i64 t129 16384) != 0), .bool ((Go.bits .and .i64 t129 8192) != 0), .int .i64 (wrap64 ((Int.tmod t129 8192) * 8)), .int .i64 (wrap64 (rd l0 8)), .int .i64 (wrap64 (rd l0 9)), .int .i64 t136, .int .i64 t138, .slice none 0 0, .slice none 0 0]) ?_ 9 _ rfl; (with_reducible repeat (first | refine blk_drewN ?_ _ | refine blk_drew ?_ | refine blk_alloc ?_ _)); refine blk_put (cs := #[.int .i64 (wrap64 (rd l0 1)), .int .i64 t132, .bool ((Go.bits .and .i64 t129 16384) != 0), .bool ((Go.bits .and .i64 t129 8192) != 0), .int .i64 (wrap64 ((Int.tmod t129 8192) * 8)), .int .i64 (wrap64 (rd l0 8)), .int .i64 (wrap64 (rd l0 9)), .int .i64 t136, .int .i64 0, .slice none 0 0, .slice none 0 0]) ?_ 8 _ rfl; (with_reducible repeat (first | refine blk_drewN ?_ _ | refine blk_drew ?_ | refine blk_alloc ?_ _)); refine blk_put (cs := #[.int .i64 (wrap64 (rd l0 1)), .int .i64 t132, .bool ((Go.bits .and .i64 t129 16384) != 0), .bool ((Go.bits .and .i64 t129 8192) != 0), .int .i64 (wrap64 ((Int.tmod t129 8192) * 8)), .int .i64 (wrap64 (rd l0 8)), .int .i64 (wrap64 (rd l0 9)), .int .i64 0, .int .i64 0, .slice none 0 0, .slice none 0 0]) ?_ 7 _ rfl; (with_reducible repeat (first | refine blk_drewN ?_ _ | refine blk_drew ?_ | refine blk_alloc ?_ _)); refine blk_put (cs := #[.int .i64 (wrap64 (rd l0 1)), .int .i64 t132, .bool ((Go.bits .and .i64 t129 16384) != 0), .bool ((Go.bits .and .i64 t129 8192) != 0), .int .i64 (wrap64 ((Int.tmod t129 8192) * 8)), .int .i64 (wrap64 (rd l0 8)), .int .i64 0, .int .i64 0, .int .i64 0, .slice none 0 0, .slice none 0 0]) ?_ 6 _ rfl; (with_reducible repeat (first | refine blk_drewN ?_ _ | refine blk_drew ?_ | refine blk_alloc ?_ _)); refine blk_put (cs := #[.int .i64 (wrap64 (rd l0 1)), .int .i64 t132, .bool ((Go.bits .and .i64 t129 16384) != 0), .bool ((Go.bits .and .i64 t129 8192) != 0), .int .i64 (wrap64 ((Int.tmod t129 8192) * 8)), .int .i64 0, .int .i64 0, .int .i64 0, .int .i64 0, .slice none 0 0, .slice none 0 0]) ?_ 5 _ rfl; (with_reducible repeat (first | refine blk_drewN ?_ _ | refine blk_drew ?_ | refine blk_alloc ?_ _)); refine blk_put (cs := #[.int .i64 (wrap64 (rd l0 1)), .int .i64 t132, .bool ((Go.bits .and .i64 t129 16384) != 0), .bool ((Go.bits .and .i64 t129 8192) != 0), .int .i64 0, .int .i64 0, .int .i64 0, .int .i64 0, .int .i64 0, .slice none 0 0, .slice none 0 0]) ?_ 4 _ rfl; (with_reducible repeat (first | refine blk_drewN ?_ _ | refine blk_drew ?_ | refine blk_alloc ?_ _)); refine blk_put (cs := #[.int .i64 (wrap64 (rd l0 1)), .int .i64 t132, .bool ((Go.bits .and .i64 t129 16384) != 0), .bool false, .int .i64 0, .int .i64 0, .int .i64 0, .int .i64 0, .int .i64 0, .slice none 0 0, .slice none 0 0]) ?_ 3 _ rfl; (with_reducible repeat (first | refine blk_drewN ?_ _ | refine blk_drew ?_ | refine blk_alloc ?_ _)); refine blk_put (cs := #[.int .i64 (wrap64 (rd l0 1)), .int .i64 t132, .bool false, .bool false, .int .i64 0, .int .i64 0, .int .i64 0, .int .i64 0, .int .i64 0, .slice none 0 0, .slice none 0 0]) ?_ 2 _ rfl; (with_reducible repeat (first | refine blk_drewN ?_ _ | refine blk_drew ?_ | refine blk_alloc ?_ _)); refine blk_put (cs := #[.int .i64 (wrap64 (rd l0 1)), .int .i64 0, .bool false, .bool false, .int .i64 0, .int .i64 0, .int .i64 0, .int .i64 0, .int .i64 0, .slice none 0 0, .slice none 0 0]) ?_ 1 _ rfl; (with_reducible repeat (first | refine blk_drewN ?_ _ | refine blk_drew ?_ | refine blk_alloc ?_ _)); refine blk_put (cs := #[.int .i64 0, .int .i64 0, .bool false, .bool false, .int .i64 0, .int .i64 0, .int .i64 0, .int .i64 0, .int .i64 0, .slice none 0 0, .slice none 0 0]) ?_ 0 _ rfl; (with_reducible repeat (first | refine blk_drewN ?_ _ | refine blk_drew ?_ | refine blk_alloc ?_ _)); exact BK147.out))⟩; have n4_ : Aside0 (Below w.heap.size w w2029) := ⟨(by rw [hw]; exact wB)⟩; clear hw; clear HO142; clear HO146; clear BK123; clear BK147; clear HB; have HO142 := n0_; have HO146 := n1_; have BK123 := n2_; have BK147 := n3_; have HB := n4_; clear n0_ n1_ n2_ n3_ n4_))
 refine bodyPost_ret (results_ct rfl _ _ gb123 51 #[.int .i64 0, .int .i64 0, .bool false, .bool false, .int .i64 0, .int .i64 0, .int .i64 0, .int .i64 0, .int .i64 0, .slice none 0 0, .slice none 0 0] (0, 0) _ rfl (Bh BK123) Try.underlying51 rfl (by kernel_rfl)) rfl ?_
 exact ⟨_, _, by first | rfl | (simp [errW_none, errW_some] <;> rfl) | (simp [*, errW_none, errW_some] <;> rfl), by first | exact Kd.R_nil _ _ _ _ _ | exact Kd.N_nil _ _ _ _ _ | exact Kd.V_nil _ _ _ _ _ | exact Kd.Q_nil _ _ _ _ _ | exact Kd.S_nil _ _ _ _ _, by first | exact Kd.R_nil _ _ _ _ _ | exact Kd.N_nil _ _ _ _ _ | exact Kd.V_nil _ _ _ _ _ | exact Kd.Q_nil _ _ _ _ _ | exact Kd.S_nil _ _ _ _ _, wB⟩
 }
 }
 )
 }
 {
 rw [if_neg c5] at H
 exact absurd H (by simp)
 }
 }
 {
 rw [if_neg c4] at H
 exact absurd H (by simp)
 }
 }
 {
 rw [if_neg c3] at H
 have c3b0 : (t125 == 0) = false := beq_eq_false_iff_ne.mpr c3
 have c3b1 : (t125 != 0) = true := bne_iff_ne.mpr c3
 simp only [Option.some.injEq, Prod.mk.injEq] at H
 obtain ⟨rfl, rfl, rfl, rfl, rfl, rfl, rfl, rfl, rfl, rfl, rfl, rfl⟩ := H
 go_enter Try.func30, Try.ntmps30
 go_wp2_with (first | ((with_reducible refine gate_dst (N := 2) rfl ?_); (try (refine gate_guard (by rfl) ?_; dsimp only)); refine box_event ?hg (N := 2) ?hd (cs := #[.int .i64 0, .int .i64 0, .bool false, .bool false, .int .i64 0, .int .i64 0, .int .i64 0, .int .i64 0, .int .i64 0, .slice none 0 0, .slice none 0 0]) (t := 51) ?hr ?_; (case hd => rfl); (case hg => rfl); (case hr => first | (go_simp; done) | (go_simp; rfl)); intro gb123 hg w1001 hbox hb; have n0_ := Aside0.mk (below_step wB hb); have n1_ := Aside0.mk (hbox); have n2_ := Aside0.mk ((by rw [hg]; exact (below_size wB) : w.heap.size ≤ gb123)); have n3_ := Aside0.mk ((by rw [hg]; exact (below_size wB) : w.heap.size ≤ gb123)); clear HB; have HB := n0_; have BK123 := n1_; have GW123 := n2_; have GE123 := n3_; clear n0_ n1_ n2_ n3_; clear hb hbox hg) | ((with_reducible refine gate_callee (f := 69) rfl ?_); refine goesL_ (some 11) rfl rfl Try.func69 (by kernel_rfl) rfl #[.slice A0 l0.length c0] rfl wT ?_; (with_reducible refine (spec_l05ReadHead.calls k _ _ l0 t124 t125 _ ?side1 ?side2 A2.out).mono ?_); (case side1 => exact Kd.C_below HR0.out wB); (case side2 => exact HC0.out); rintro e w' ⟨rfl, ⟨nd, rfl⟩⟩; refine ⟨_, rfl, ?_⟩; (try (rw [drewN_self w1001]; generalize hq_ : World.drewN w1001 _ = w1001; have n0_ := Aside0.mk (blk_at hq_ BK123.out); have n1_ := Aside0.mk (below_at hq_ HB.out); clear hq_ BK123 HB; have BK123 := n0_; have HB := n1_; clear n0_ n1_; (try (obtain ⟨⟨hcyBK123_0, hcyBK123_1, hcyBK123_2, hcyBK123_3, hcyBK123_4, hcyBK123_5, hcyBK123_6, hcyBK123_7, hcyBK123_8, hcyBK123_9, hcyBK123_10⟩, hfyBK123_0, hfyBK123_1, hfyBK123_2, hfyBK123_3, hfyBK123_4, hfyBK123_5, hfyBK123_6, hfyBK123_7, hfyBK123_8, hfyBK123_9, hfyBK123_10⟩ := cells11 BK123.out)))); obtain ⟨⟨hcz1002_0, hcz1002_1, hcz1002_2, hcz1002_3, hcz1002_4, hcz1002_5, hcz1002_6, hcz1002_7, hcz1002_8, hcz1002_9, hcz1002_10⟩, hfz1002_0, hfz1002_1, hfz1002_2, hfz1002_3, hfz1002_4, hfz1002_5, hfz1002_6, hfz1002_7, hfz1002_8, hfz1002_9, hfz1002_10⟩ := cells11 BK123.out) | ((with_reducible refine gate_store (t := 51) (p := 2) rfl ?_); (try (rw [drewN_self w1001]; generalize hq_ : World.drewN w1001 _ = w1001; have n0_ := Aside0.mk (blk_at hq_ BK123.out); have n1_ := Aside0.mk (below_at hq_ HB.out); clear hq_ BK123 HB; have BK123 := n0_; have HB := n1_; clear n0_ n1_; (try (obtain ⟨⟨hcyBK123_0, hcyBK123_1, hcyBK123_2, hcyBK123_3, hcyBK123_4, hcyBK123_5, hcyBK123_6, hcyBK123_7, hcyBK123_8, hcyBK123_9, hcyBK123_10⟩, hfyBK123_0, hfyBK123_1, hfyBK123_2, hfyBK123_3, hfyBK123_4, hfyBK123_5, hfyBK123_6, hfyBK123_7, hfyBK123_8, hfyBK123_9, hfyBK123_10⟩ := cells11 BK123.out)))); refine store_event (t := 51) (p := 2) (v := ?_) (w1 := (((((((((((w1001.setCell ⟨gb123, 0, none⟩ (.int .i64 0)).setCell ⟨gb123, 1, none⟩ (.int .i64 0)).setCell ⟨gb123, 2, none⟩ (.bool false)).setCell ⟨gb123, 3, none⟩ (.bool false)).setCell ⟨gb123, 4, none⟩ (.int .i64 0)).setCell ⟨gb123, 5, none⟩ (.int .i64 0)).setCell ⟨gb123, 6, none⟩ (.int .i64 0)).setCell ⟨gb123, 7, none⟩ (.int .i64 0)).setCell ⟨gb123, 8, none⟩ (.int .i64 0)).setCell ⟨gb123, 9, none⟩ (.slice none 0 0)).setCell ⟨gb123, 10, none⟩ (.slice none 0 0))) ?hg ?ho ?hn ?hr ?_; (case ho => rfl); (case hg => rfl); (case hn => rfl); (case hr => first | (go_simp; done) | (go_simp; rfl)); intro w1003 hw; have n0_ : Aside0 (w1003.heap[gb123]? = some (.cells #[.int .i64 0, .int .i64 0, .bool false, .bool false, .int .i64 0, .int .i64 0, .int .i64 0, .int .i64 0, .int .i64 0, .slice none 0 0, .slice none 0 0] 51 (0, 0))) := ⟨(by rw [hw]; exact (by (with_reducible repeat (first | refine blk_drewN ?_ _ | refine blk_drew ?_ | refine blk_alloc ?_ _)); refine blk_put (cs := #[.int .i64 0, .int .i64 0, .bool false, .bool false, .int .i64 0, .int .i64 0, .int .i64 0, .int .i64 0, .int .i64 0, .slice none 0 0, .slice none 0 0]) ?_ 10 _ rfl; (with_reducible repeat (first | refine blk_drewN ?_ _ | refine blk_drew ?_ | refine blk_alloc ?_ _)); refine blk_put (cs := #[.int .i64 0, .int .i64 0, .bool false, .bool false, .int .i64 0, .int .i64 0, .int .i64 0, .int .i64 0, .int .i64 0, .slice none 0 0, .slice none 0 0]) ?_ 9 _ rfl; (with_reducible repeat (first | refine blk_drewN ?_ _ | refine blk_drew ?_ | refine blk_alloc ?_ _)); refine blk_put (cs := #[.int .i64 0, .int .i64 0, .bool false, .bool false, .int .i64 0, .int .i64 0, .int .i64 0, .int .i64 0, .int .i64 0, .slice none 0 0, .slice none 0 0]) ?_ 8 _ rfl; (with_reducible repeat (first | refine blk_drewN ?_ _ | refine blk_drew ?_ | refine blk_alloc ?_ _)); refine blk_put (cs := #[.int .i64 0, .int .i64 0, .bool false, .bool false, .int .i64 0, .int .i64 0, .int .i64 0, .int .i64 0, .int .i64 0, .slice none 0 0, .slice none 0 0]) ?_ 7 _ rfl; (with_reducible repeat (first | refine blk_drewN ?_ _ | refine blk_drew ?_ | refine blk_alloc ?_ _)); refine blk_put (cs := #[.int .i64 0, .int .i64 0, .bool false, .bool false, .int .i64 0, .int .i64 0, .int .i64 0, .int .i64 0, .int .i64 0, .slice none 0 0, .slice none 0 0]) ?_ 6 _ rfl; (with_reducible repeat (first | refine blk_drewN ?_ _ | refine blk_drew ?_ | refine blk_alloc ?_ _)); refine blk_put (cs := #[.int .i64 0, .int .i64 0, .bool false, .bool false, .int .i64 0, .int .i64 0, .int .i64 0, .int .i64 0, .int .i64 0, .slice none 0 0, .slice none 0 0]) ?_ 5 _ rfl; (with_reducible repeat (first | refine blk_drewN ?_ _ | refine blk_drew ?_ | refine blk_alloc ?_ _)); refine blk_put (cs := #[.int .i64 0, .int .i64 0, .bool false, .bool false, .int .i64 0, .int .i64 0, .int .i64 0, .int .i64 0, .int .i64 0, .slice none 0 0, .slice none 0 0]) ?_ 4 _ rfl; (with_reducible repeat (first | refine blk_drewN ?_ _ | refine blk_drew ?_ | refine blk_alloc ?_ _)); refine blk_put (cs := #[.int .i64 0, .int .i64 0, .bool false, .bool false, .int .i64 0, .int .i64 0, .int .i64 0, .int .i64 0, .int .i64 0, .slice none 0 0, .slice none 0 0]) ?_ 3 _ rfl; (with_reducible repeat (first | refine blk_drewN ?_ _ | refine blk_drew ?_ | refine blk_alloc ?_ _)); refine blk_put (cs := #[.int .i64 0, .int .i64 0, .bool false, .bool false, .int .i64 0, .int .i64 0, .int .i64 0, .int .i64 0, .int .i64 0, .slice none 0 0, .slice none 0 0]) ?_ 2 _ rfl; (with_reducible repeat (first | refine blk_drewN ?_ _ | refine blk_drew ?_ | refine blk_alloc ?_ _)); refine blk_put (cs := #[.int .i64 0, .int .i64 0, .bool false, .bool false, .int .i64 0, .int .i64 0, .int .i64 0, .int .i64 0, .int .i64 0, .slice none 0 0, .slice none 0 0]) ?_ 1 _ rfl; (with_reducible repeat (first | refine blk_drewN ?_ _ | refine blk_drew ?_ | refine blk_alloc ?_ _)); refine blk_put (cs := #[.int .i64 0, .int .i64 0, .bool false, .bool false, .int .i64 0, .int .i64 0, .int .i64 0, .int .i64 0, .int .i64 0, .slice none 0 0, .slice none 0 0]) ?_ 0 _ rfl; (with_reducible repeat (first | refine blk_drewN ?_ _ | refine blk_drew ?_ | refine blk_alloc ?_ _)); exact BK123.out))⟩; have n1_ : Aside0 (Below w.heap.size w w1003) := ⟨(by rw [hw]; exact wB)⟩; clear hw; clear BK123; clear HB; have BK123 := n0_; have HB := n1_; clear n0_ n1_))
 refine bodyPost_ret (results_ct rfl _ _ gb123 51 #[.int .i64 0, .int .i64 0, .bool false, .bool false, .int .i64 0, .int .i64 0, .int .i64 0, .int .i64 0, .int .i64 0, .slice none 0 0, .slice none 0 0] (0, 0) _ rfl (Bh BK123) Try.underlying51 rfl (by kernel_rfl)) rfl ?_
 exact ⟨_, _, by first | rfl | (simp [errW_none, errW_some] <;> rfl) | (simp [*, errW_none, errW_some] <;> rfl), by first | exact Kd.R_nil _ _ _ _ _ | exact Kd.N_nil _ _ _ _ _ | exact Kd.V_nil _ _ _ _ _ | exact Kd.Q_nil _ _ _ _ _ | exact Kd.S_nil _ _ _ _ _, by first | exact Kd.R_nil _ _ _ _ _ | exact Kd.N_nil _ _ _ _ _ | exact Kd.V_nil _ _ _ _ _ | exact Kd.Q_nil _ _ _ _ _ | exact Kd.S_nil _ _ _ _ _, wB⟩
 }

end Go.Proofs.Ytkfbcmbemihbnaa.PFnExactDecodeIP
