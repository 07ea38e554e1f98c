-- Written for this claim by a program of this session (wip/mkprint.py: the print, turned at a few places). Not trusted: Lean checks it.
import Derived.Test.YtkfbcmbemihbnaaPFnExactReadQuotex0
import Derived.Test.YtkfbcmbemihbnaaPFnExactReadQuotex1
namespace Go.Proofs.Ytkfbcmbemihbnaa.PFnExactReadQuote
open Go.RowKit Go.Proofs.YtkfbcmbemihbnaaW.PrintWords Go.Proofs.YtkfbcmbemihbnaaW.PrintLast Go.Proofs.YtkfbcmbemihbnaaW.PrintMore
attribute [local go_sem] max2_int min2_int max_two min_two max_three min_three max_four min_four   -- for this text's walks alone
set_option linter.unusedVariables false
set_option linter.unusedSimpArgs false

/-! ### spec_ReadQuote: function 18 -/
def spec_ReadQuote.f (k : Nat) (l0 : List Int) : Option (Int × Int × Int × Int × Int × Int × Int × Int) := (spec_l05ReadHead.f k l0).bind fun bt110 => (if bt110.2 = 0 then (if (l0.length : Int) < (wrap64 (bt110.1 + 8)) then (some (0, 0, 0, 0, 0, 0, 0, 2)) else (if 0 ≤ bt110.1 then (if bt110.1 ≤ (wrap64 (bt110.1 + 8)) then (if (wrap64 (bt110.1 + 8)) ≤ (l0.length : Int) then (if 9 < (l0.length : Int) then (if 12 ≤ 16 then (if 16 ≤ (l0.length : Int) then ((spec_l03Num.f k ((l0.take 16).drop 12)).bind fun t115 => (if 16 ≤ 20 then (if 20 ≤ (l0.length : Int) then ((spec_l03Num.f k ((l0.take 20).drop 16)).bind fun t117 => (if 4 ≤ 6 then (if 6 ≤ (l0.length : Int) then ((spec_l03Num.f k ((l0.take 6).drop 4)).bind fun t119 => (if 2 ≤ (((l0.take ((wrap64 (bt110.1 + 8)) : Int).toNat).drop (bt110.1 : Int).toNat).length : Int) then ((spec_l03Num.f k (((l0.take ((wrap64 (bt110.1 + 8)) : Int).toNat).drop (bt110.1 : Int).toNat).take 2)).bind fun t121 => (if 2 ≤ 4 then (if 4 ≤ (((l0.take ((wrap64 (bt110.1 + 8)) : Int).toNat).drop (bt110.1 : Int).toNat).length : Int) then ((spec_l03Num.f k ((((l0.take ((wrap64 (bt110.1 + 8)) : Int).toNat).drop (bt110.1 : Int).toNat).take 4).drop 2)).bind fun t123 => ((spec_l03Num.f k (((l0.take ((wrap64 (bt110.1 + 8)) : Int).toNat).drop (bt110.1 : Int).toNat).drop 4)).bind fun t125 => (some (wrap64 (rd l0 9), t115, t117, t119, t121, t123, t125, 0)))) else (none)) else (none))) else (none))) else (none)) else (none))) else (none)) else (none))) else (none)) else (none)) else (none)) else (none)) else (none)) else (none))) else (some (0, 0, 0, 0, 0, 0, 0, bt110.2)))
theorem spec_ReadQuote.mono : ∀ a0 k, LeO (spec_ReadQuote.f k a0) (spec_ReadQuote.f (k + 1) a0) := by
 intro a0 k
 unfold spec_ReadQuote.f
 repeat' first
     | (with_reducible exact spec_l03Num.mono _ _)
     | (with_reducible exact spec_l05ReadHead.mono _ _)
     | (with_reducible exact LeO.refl _)
     | (with_reducible exact LeO.none _)
     | (with_reducible refine LeO.ite ?_ ?_)
     | (with_reducible refine LeO.bind ?_ (fun _ => ?_))
     | exact spec_l03Num.mono _ _
     | exact spec_l05ReadHead.mono _ _
     | exact LeO.none _
     | refine LeO.ite ?_ ?_
     | refine LeO.bind ?_ (fun _ => ?_)
def spec_ReadQuote.T7 : Bool × List (List Nat × List Nat) := (true, [([], []), ([0], [0]), ([1], [1]), ([2], [2]), ([], []), ([4], [4]), ([5], [5]), ([], []), ([7], [7]), ([8, 6], [8]), ([], []), ([10], [10]), ([11, 9], [11]), ([], []), ([13], [13]), ([14, 12], [14]), ([], []), ([16], [16]), ([17, 15], [17]), ([], []), ([19], [19]), ([20, 18], [20]), ([3, 6, 9, 12, 15, 18, 21], [3, 6, 9, 12, 15, 18, 21]), ([22, 21, 0, 1, 2, 3, 4, 5, 6, 7, 8, 9, 10, 11, 12, 13, 14, 15, 16, 17, 18, 19, 20, 21, 22], [22]), ([23, 0, 1, 2, 3, 4, 5, 6, 7, 8, 9, 10, 11, 12, 13, 14, 15, 16, 17, 18, 19, 20, 21, 22, 23], [])])
def spec_ReadQuote.B7 : List Nat := [0, 1, 3, 7, 0, 16, 48, 0, 128, 496, 0, 1024, 4080, 0, 8192, 32752, 0, 65536, 262128, 0, 524288, 2097136, 4194303, 8388607, 16777215]
theorem spec_ReadQuote.tab7 : rtab .any (opsOf Try.f18 7) = spec_ReadQuote.T7 := by kernel_rfl
theorem spec_ReadQuote.bits7 : waitsOk spec_ReadQuote.T7.2 spec_ReadQuote.B7 = true := by kernel_rfl
set_option maxHeartbeats 60000000 in
set_option maxRecDepth 100000 in
theorem spec_ReadQuote.calls (k : Nat) (A0 : Option Addr) (c0 : Nat) (l0 : List Int) (r1 : Int) (r2 : Int) (r3 : Int) (r4 : Int) (r5 : Int) (r6 : Int) (r7 : Int) (r8 : Int) (w : World) (hr0 : Kd.C (Kd.int .u8) w A0 l0.length l0) (hc0 : l0.length ≤ c0) (h : spec_ReadQuote.f k l0 = some (r1, r2, r3, r4, r5, r6, r7, r8)) :
 Calls Try.prog 18 #[.slice A0 l0.length c0] w fun e w' => e = .returned (.tuple #[.agg #[.int .i64 r1, .int .i64 r2, .int .i64 r3, .int .i64 r4, .int .i64 r5, .int .i64 r6, .int .i64 r7], .int .i64 r8]) ∧ Below w.heap.size w w' := by
 have hu38 := Try.underlying38
 have HR0 := Aside0.mk hr0
 have HC0 := Aside0.mk hc0
 clear hr0 hc0
 have HB := Aside0.mk (Below.refl w.heap.size w)
 have H : ((spec_l05ReadHead.f k l0).bind fun bt110 => (if bt110.2 = 0 then (if (l0.length : Int) < (wrap64 (bt110.1 + 8)) then (some (0, 0, 0, 0, 0, 0, 0, 2)) else (if 0 ≤ bt110.1 then (if bt110.1 ≤ (wrap64 (bt110.1 + 8)) then (if (wrap64 (bt110.1 + 8)) ≤ (l0.length : Int) then (if 9 < (l0.length : Int) then (if 12 ≤ 16 then (if 16 ≤ (l0.length : Int) then ((spec_l03Num.f k ((l0.take 16).drop 12)).bind fun t115 => (if 16 ≤ 20 then (if 20 ≤ (l0.length : Int) then ((spec_l03Num.f k ((l0.take 20).drop 16)).bind fun t117 => (if 4 ≤ 6 then (if 6 ≤ (l0.length : Int) then ((spec_l03Num.f k ((l0.take 6).drop 4)).bind fun t119 => (if 2 ≤ (((l0.take ((wrap64 (bt110.1 + 8)) : Int).toNat).drop (bt110.1 : Int).toNat).length : Int) then ((spec_l03Num.f k (((l0.take ((wrap64 (bt110.1 + 8)) : Int).toNat).drop (bt110.1 : Int).toNat).take 2)).bind fun t121 => (if 2 ≤ 4 then (if 4 ≤ (((l0.take ((wrap64 (bt110.1 + 8)) : Int).toNat).drop (bt110.1 : Int).toNat).length : Int) then ((spec_l03Num.f k ((((l0.take ((wrap64 (bt110.1 + 8)) : Int).toNat).drop (bt110.1 : Int).toNat).take 4).drop 2)).bind fun t123 => ((spec_l03Num.f k (((l0.take ((wrap64 (bt110.1 + 8)) : Int).toNat).drop (bt110.1 : Int).toNat).drop 4)).bind fun t125 => (some (wrap64 (rd l0 9), t115, t117, t119, t121, t123, t125, 0)))) else (none)) else (none))) else (none))) else (none)) else (none))) else (none)) else (none))) else (none)) else (none)) else (none)) else (none)) else (none)) else (none))) else (some (0, 0, 0, 0, 0, 0, 0, bt110.2)))) = some (r1, r2, r3, r4, r5, r6, r7, r8) := h
 clear h
 replace H := Option.bind_eq_some_iff.mp H
 obtain ⟨⟨t110, t111⟩, A20, H⟩ := H
 replace H : (if t111 = 0 then (if (l0.length : Int) < (wrap64 (t110 + 8)) then (some (0, 0, 0, 0, 0, 0, 0, 2)) else (if 0 ≤ t110 then (if t110 ≤ (wrap64 (t110 + 8)) then (if (wrap64 (t110 + 8)) ≤ (l0.length : Int) then (if 9 < (l0.length : Int) then (if 12 ≤ 16 then (if 16 ≤ (l0.length : Int) then ((spec_l03Num.f k ((l0.take 16).drop 12)).bind fun t115 => (if 16 ≤ 20 then (if 20 ≤ (l0.length : Int) then ((spec_l03Num.f k ((l0.take 20).drop 16)).bind fun t117 => (if 4 ≤ 6 then (if 6 ≤ (l0.length : Int) then ((spec_l03Num.f k ((l0.take 6).drop 4)).bind fun t119 => (if 2 ≤ (((l0.take ((wrap64 (t110 + 8)) : Int).toNat).drop (t110 : Int).toNat).length : Int) then ((spec_l03Num.f k (((l0.take ((wrap64 (t110 + 8)) : Int).toNat).drop (t110 : Int).toNat).take 2)).bind fun t121 => (if 2 ≤ 4 then (if 4 ≤ (((l0.take ((wrap64 (t110 + 8)) : Int).toNat).drop (t110 : Int).toNat).length : Int) then ((spec_l03Num.f k ((((l0.take ((wrap64 (t110 + 8)) : Int).toNat).drop (t110 : Int).toNat).take 4).drop 2)).bind fun t123 => ((spec_l03Num.f k (((l0.take ((wrap64 (t110 + 8)) : Int).toNat).drop (t110 : Int).toNat).drop 4)).bind fun t125 => (some (wrap64 (rd l0 9), t115, t117, t119, t121, t123, t125, 0)))) else (none)) else (none))) else (none))) else (none)) else (none))) else (none)) else (none))) else (none)) else (none)) else (none)) else (none)) else (none)) else (none))) else (some (0, 0, 0, 0, 0, 0, 0, t111))) = some (r1, r2, r3, r4, r5, r6, r7, r8) := H
 have A2 := Aside0.mk A20
 clear A20
 by_cases c3 : t111 = 0
 {
 rw [if_pos c3] at H
 have c3b0 : (t111 == 0) = true := beq_iff_eq.mpr c3
 have c3b1 : (t111 != 0) = false := bne_eq_false_iff_eq.mpr c3
 clear c3
 by_cases c4 : (l0.length : Int) < (wrap64 (t110 + 8))
 {
 rw [if_pos c4] at H
 have c4b0 : decide ((l0.length : Int) < (wrap64 (t110 + 8))) = true := decide_eq_true c4
 clear c4
 simp only [Option.some.injEq, Prod.mk.injEq] at H
 obtain ⟨rfl, rfl, rfl, rfl, rfl, rfl, rfl, rfl⟩ := H
 go_enter Try.func18, Try.ntmps18
 go_wp2_with (first | ((with_reducible refine gate_dst (N := 2) rfl ?_); refine box_event ?hg (N := 2) ?hd (cs := #[.int .i64 0, .int .i64 0, .int .i64 0, .int .i64 0, .int .i64 0, .int .i64 0, .int .i64 0]) (t := 38) ?hr ?_; (case hd => rfl); (case hg => rfl); (case hr => first | (go_simp; done) | (go_simp; rfl)); intro gb109 hg w1001 hbox hb; have n0_ := Aside0.mk (below_step wB hb); have n1_ := Aside0.mk (hbox); have n2_ := Aside0.mk ((by rw [hg]; exact (below_size wB) : w.heap.size ≤ gb109)); have n3_ := Aside0.mk ((by rw [hg]; exact (below_size wB) : w.heap.size ≤ gb109)); clear HB; have HB := n0_; have BK109 := n1_; have GW109 := n2_; have GE109 := n3_; clear n0_ n1_ n2_ n3_; clear hb hbox hg) | ((with_reducible refine gate_callee (f := 69) rfl ?_); refine goesL_ (some 9) rfl rfl Try.func69 (by kernel_rfl) rfl #[.slice A0 l0.length c0] rfl wT ?_; (with_reducible refine (spec_l05ReadHead.calls k _ _ l0 t110 t111 _ ?side1 ?side2 A2.out).mono ?_); (case side1 => exact Kd.C_below HR0.out wB); (case side2 => exact HC0.out); rintro e w' ⟨rfl, ⟨nd, rfl⟩⟩; refine ⟨_, rfl, ?_⟩; (try (rw [drewN_self w1001]; generalize hq_ : World.drewN w1001 _ = w1001; have n0_ := Aside0.mk (blk_at hq_ BK109.out); have n1_ := Aside0.mk (below_at hq_ HB.out); clear hq_ BK109 HB; have BK109 := n0_; have HB := n1_; clear n0_ n1_; (try (obtain ⟨⟨hcyBK109_0, hcyBK109_1, hcyBK109_2, hcyBK109_3, hcyBK109_4, hcyBK109_5, hcyBK109_6⟩, hfyBK109_0, hfyBK109_1, hfyBK109_2, hfyBK109_3, hfyBK109_4, hfyBK109_5, hfyBK109_6⟩ := cells7 BK109.out)))); obtain ⟨⟨hcz1002_0, hcz1002_1, hcz1002_2, hcz1002_3, hcz1002_4, hcz1002_5, hcz1002_6⟩, hfz1002_0, hfz1002_1, hfz1002_2, hfz1002_3, hfz1002_4, hfz1002_5, hfz1002_6⟩ := cells7 BK109.out) | ((with_reducible refine gate_store (t := 38) (p := 2) rfl ?_); (try (rw [drewN_self w1001]; generalize hq_ : World.drewN w1001 _ = w1001; have n0_ := Aside0.mk (blk_at hq_ BK109.out); have n1_ := Aside0.mk (below_at hq_ HB.out); clear hq_ BK109 HB; have BK109 := n0_; have HB := n1_; clear n0_ n1_; (try (obtain ⟨⟨hcyBK109_0, hcyBK109_1, hcyBK109_2, hcyBK109_3, hcyBK109_4, hcyBK109_5, hcyBK109_6⟩, hfyBK109_0, hfyBK109_1, hfyBK109_2, hfyBK109_3, hfyBK109_4, hfyBK109_5, hfyBK109_6⟩ := cells7 BK109.out)))); refine store_event (t := 38) (p := 2) (v := ?_) (w1 := (((((((w1001.setCell ⟨gb109, 0, none⟩ (.int .i64 0)).setCell ⟨gb109, 1, none⟩ (.int .i64 0)).setCell ⟨gb109, 2, none⟩ (.int .i64 0)).setCell ⟨gb109, 3, none⟩ (.int .i64 0)).setCell ⟨gb109, 4, none⟩ (.int .i64 0)).setCell ⟨gb109, 5, none⟩ (.int .i64 0)).setCell ⟨gb109, 6, none⟩ (.int .i64 0))) ?hg ?ho ?hn ?hr ?_; (case ho => rfl); (case hg => rfl); (case hn => rfl); (case hr => first | (go_simp; done) | (go_simp; rfl)); intro w1003 hw; have n0_ : Aside0 (w1003.heap[gb109]? = some (.cells #[.int .i64 0, .int .i64 0, .int .i64 0, .int .i64 0, .int .i64 0, .int .i64 0, .int .i64 0] 38 (0, 0))) := ⟨(by rw [hw]; exact (by (with_reducible repeat (first | refine blk_drewN ?_ _ | refine blk_drew ?_ | refine blk_alloc ?_ _)); refine blk_put (cs := #[.int .i64 0, .int .i64 0, .int .i64 0, .int .i64 0, .int .i64 0, .int .i64 0, .int .i64 0]) ?_ 6 _ rfl; (with_reducible repeat (first | refine blk_drewN ?_ _ | refine blk_drew ?_ | refine blk_alloc ?_ _)); refine blk_put (cs := #[.int .i64 0, .int .i64 0, .int .i64 0, .int .i64 0, .int .i64 0, .int .i64 0, .int .i64 0]) ?_ 5 _ rfl; (with_reducible repeat (first | refine blk_drewN ?_ _ | refine blk_drew ?_ | refine blk_alloc ?_ _)); refine blk_put (cs := #[.int .i64 0, .int .i64 0, .int .i64 0, .int .i64 0, .int .i64 0, .int .i64 0, .int .i64 0]) ?_ 4 _ rfl; (with_reducible repeat (first | refine blk_drewN ?_ _ | refine blk_drew ?_ | refine blk_alloc ?_ _)); refine blk_put (cs := #[.int .i64 0, .int .i64 0, .int .i64 0, .int .i64 0, .int .i64 0, .int .i64 0, .int .i64 0]) ?_ 3 _ rfl; (with_reducible repeat (first | refine blk_drewN ?_ _ | refine blk_drew ?_ | refine blk_alloc ?_ _)); refine blk_put (cs := #[.int .i64 0, .int .i64 0, .int .i64 0, .int .i64 0, .int .i64 0, .int .i64 0, .int .i64 0]) ?_ 2 _ rfl; (with_reducible repeat (first | refine blk_drewN ?_ _ | refine blk_drew ?_ | refine blk_alloc ?_ _)); refine blk_put (cs := #[.int .i64 0, .int .i64 0, .int .i64 0, .int .i64 0, .int .i64 0, .int .i64 0, .int .i64 0]) ?_ 1 _ rfl; (with_reducible repeat (first | refine blk_drewN ?_ _ | refine blk_drew ?_ | refine blk_alloc ?_ _)); refine blk_put (cs := #[.int .i64 0, .int .i64 0, .int .i64 0, .int .i64 0, .int .i64 0, .int .i64 0, .int .i64 0]) ?_ 0 _ rfl; (with_reducible repeat (first | refine blk_drewN ?_ _ | refine blk_drew ?_ | refine blk_alloc ?_ _)); exact BK109.out))⟩; have n1_ : Aside0 (Below w.heap.size w w1003) := ⟨(by rw [hw]; exact wB)⟩; clear hw; clear BK109; clear HB; have BK109 := n0_; have HB := n1_; clear n0_ n1_))
 refine bodyPost_ret (results_ct rfl _ _ gb109 38 #[.int .i64 0, .int .i64 0, .int .i64 0, .int .i64 0, .int .i64 0, .int .i64 0, .int .i64 0] (0, 0) _ rfl (Bh BK109) Try.underlying38 rfl (by kernel_rfl)) rfl ?_
 exact ⟨by first | rfl | (simp [errW_none, errW_some] <;> rfl) | (simp [*, errW_none, errW_some] <;> rfl), wB⟩
 }
 {
 rw [if_neg c4] at H
 have c4b0 : decide ((l0.length : Int) < (wrap64 (t110 + 8))) = false := decide_eq_false c4
 clear c4
 by_cases c5 : 0 ≤ t110
 {
 rw [if_pos c5] at H
 have c5b0 := eq_true c5
 have c5b1 : decide (0 ≤ t110) = true := decide_eq_true c5
 clear c5
 by_cases c6 : t110 ≤ (wrap64 (t110 + 8))
 {
 rw [if_pos c6] at H
 have c6b0 := eq_true c6
 have c6b1 : decide (t110 ≤ (wrap64 (t110 + 8))) = true := decide_eq_true c6
 by_cases c7 : (wrap64 (t110 + 8)) ≤ (l0.length : Int)
 {
 rw [if_pos c7] at H
 have c7b0 := eq_true c7
 have c7b1 : decide ((wrap64 (t110 + 8)) ≤ (l0.length : Int)) = true := decide_eq_true c7
 by_cases c8 : 9 < (l0.length : Int)
 {
 rw [if_pos c8] at H
 have c8b0 : decide (9 < (l0.length : Int)) = true := decide_eq_true c8
 have c8b1 : decide (9 < l0.length) = true := decide_eq_true (by omega)
 clear c8
 by_cases c9 : 12 ≤ 16
 {
 rw [if_pos c9] at H
 have c9b0 := eq_true c9
 have c9b1 : decide (12 ≤ 16) = true := decide_eq_true c9
 clear c9
 by_cases c10 : 16 ≤ (l0.length : Int)
 {
 rw [if_pos c10] at H
 have c10b0 := eq_true c10
 have c10b1 : decide (16 ≤ (l0.length : Int)) = true := decide_eq_true c10
 clear c10
 replace H := Option.bind_eq_some_iff.mp H
 obtain ⟨t115, A110, H⟩ := H
 replace H : (if 16 ≤ 20 then (if 20 ≤ (l0.length : Int) then ((spec_l03Num.f k ((l0.take 20).drop 16)).bind fun t117 => (if 4 ≤ 6 then (if 6 ≤ (l0.length : Int) then ((spec_l03Num.f k ((l0.take 6).drop 4)).bind fun t119 => (if 2 ≤ (((l0.take ((wrap64 (t110 + 8)) : Int).toNat).drop (t110 : Int).toNat).length : Int) then ((spec_l03Num.f k (((l0.take ((wrap64 (t110 + 8)) : Int).toNat).drop (t110 : Int).toNat).take 2)).bind fun t121 => (if 2 ≤ 4 then (if 4 ≤ (((l0.take ((wrap64 (t110 + 8)) : Int).toNat).drop (t110 : Int).toNat).length : Int) then ((spec_l03Num.f k ((((l0.take ((wrap64 (t110 + 8)) : Int).toNat).drop (t110 : Int).toNat).take 4).drop 2)).bind fun t123 => ((spec_l03Num.f k (((l0.take ((wrap64 (t110 + 8)) : Int).toNat).drop (t110 : Int).toNat).drop 4)).bind fun t125 => (some (wrap64 (rd l0 9), t115, t117, t119, t121, t123, t125, 0)))) else (none)) else (none))) else (none))) else (none)) else (none))) else (none)) else (none)) = some (r1, r2, r3, r4, r5, r6, r7, r8) := H
 have A11 := Aside0.mk A110
 clear A110
 by_cases c12 : 16 ≤ 20
 {
 rw [if_pos c12] at H
 have c12b0 := eq_true c12
 have c12b1 : decide (16 ≤ 20) = true := decide_eq_true c12
 clear c12
 by_cases c13 : 20 ≤ (l0.length : Int)
 {
 rw [if_pos c13] at H
 have c13b0 := eq_true c13
 have c13b1 : decide (20 ≤ (l0.length : Int)) = true := decide_eq_true c13
 clear c13
 replace H := Option.bind_eq_some_iff.mp H
 obtain ⟨t117, A140, H⟩ := H
 replace H : (if 4 ≤ 6 then (if 6 ≤ (l0.length : Int) then ((spec_l03Num.f k ((l0.take 6).drop 4)).bind fun t119 => (if 2 ≤ (((l0.take ((wrap64 (t110 + 8)) : Int).toNat).drop (t110 : Int).toNat).length : Int) then ((spec_l03Num.f k (((l0.take ((wrap64 (t110 + 8)) : Int).toNat).drop (t110 : Int).toNat).take 2)).bind fun t121 => (if 2 ≤ 4 then (if 4 ≤ (((l0.take ((wrap64 (t110 + 8)) : Int).toNat).drop (t110 : Int).toNat).length : Int) then ((spec_l03Num.f k ((((l0.take ((wrap64 (t110 + 8)) : Int).toNat).drop (t110 : Int).toNat).take 4).drop 2)).bind fun t123 => ((spec_l03Num.f k (((l0.take ((wrap64 (t110 + 8)) : Int).toNat).drop (t110 : Int).toNat).drop 4)).bind fun t125 => (some (wrap64 (rd l0 9), t115, t117, t119, t121, t123, t125, 0)))) else (none)) else (none))) else (none))) else (none)) else (none)) = some (r1, r2, r3, r4, r5, r6, r7, r8) := H
 have A14 := Aside0.mk A140
 clear A140
 by_cases c15 : 4 ≤ 6
 {
 rw [if_pos c15] at H
 have c15b0 := eq_true c15
 have c15b1 : decide (4 ≤ 6) = true := decide_eq_true c15
 clear c15
 by_cases c16 : 6 ≤ (l0.length : Int)
 {
 rw [if_pos c16] at H
 have c16b0 := eq_true c16
 have c16b1 : decide (6 ≤ (l0.length : Int)) = true := decide_eq_true c16
 clear c16
 replace H := Option.bind_eq_some_iff.mp H
 obtain ⟨t119, A170, H⟩ := H
 replace H : (if 2 ≤ (((l0.take ((wrap64 (t110 + 8)) : Int).toNat).drop (t110 : Int).toNat).length : Int) then ((spec_l03Num.f k (((l0.take ((wrap64 (t110 + 8)) : Int).toNat).drop (t110 : Int).toNat).take 2)).bind fun t121 => (if 2 ≤ 4 then (if 4 ≤ (((l0.take ((wrap64 (t110 + 8)) : Int).toNat).drop (t110 : Int).toNat).length : Int) then ((spec_l03Num.f k ((((l0.take ((wrap64 (t110 + 8)) : Int).toNat).drop (t110 : Int).toNat).take 4).drop 2)).bind fun t123 => ((spec_l03Num.f k (((l0.take ((wrap64 (t110 + 8)) : Int).toNat).drop (t110 : Int).toNat).drop 4)).bind fun t125 => (some (wrap64 (rd l0 9), t115, t117, t119, t121, t123, t125, 0)))) else (none)) else (none))) else (none)) = some (r1, r2, r3, r4, r5, r6, r7, r8) := H
 have A17 := Aside0.mk A170
 clear A170
 by_cases c18 : 2 ≤ (((l0.take ((wrap64 (t110 + 8)) : Int).toNat).drop (t110 : Int).toNat).length : Int)
 {
 rw [if_pos c18] at H
 have c18b0 := eq_true c18
 have c18b1 : decide (2 ≤ (((l0.take ((wrap64 (t110 + 8)) : Int).toNat).drop (t110 : Int).toNat).length : Int)) = true := decide_eq_true c18
 (try (have c18b3 : (2 ≤ ((c0 - (t110 : Int).toNat : Nat) : Int)) = True := eq_true (by have hc_ := HC0.out; have hq_ := c18; simp only [List.length_drop, List.length_take] at hq_; omega)))
 (try (have c18b7 : (2 ≤ ((((wrap64 (t110 + 8)) : Int).toNat - (t110 : Int).toNat : Nat) : Int)) = True := eq_true (by have hq_ := c18; simp only [List.length_drop, List.length_take] at hq_; omega)))
 replace H := Option.bind_eq_some_iff.mp H
 obtain ⟨t121, A190, H⟩ := H
 replace H : (if 2 ≤ 4 then (if 4 ≤ (((l0.take ((wrap64 (t110 + 8)) : Int).toNat).drop (t110 : Int).toNat).length : Int) then ((spec_l03Num.f k ((((l0.take ((wrap64 (t110 + 8)) : Int).toNat).drop (t110 : Int).toNat).take 4).drop 2)).bind fun t123 => ((spec_l03Num.f k (((l0.take ((wrap64 (t110 + 8)) : Int).toNat).drop (t110 : Int).toNat).drop 4)).bind fun t125 => (some (wrap64 (rd l0 9), t115, t117, t119, t121, t123, t125, 0)))) else (none)) else (none)) = some (r1, r2, r3, r4, r5, r6, r7, r8) := H
 have A19 := Aside0.mk A190
 clear A190
 by_cases c20 : 2 ≤ 4
 {
 rw [if_pos c20] at H
 have c20b0 := eq_true c20
 have c20b1 : decide (2 ≤ 4) = true := decide_eq_true c20
 clear c20
 by_cases c21 : 4 ≤ (((l0.take ((wrap64 (t110 + 8)) : Int).toNat).drop (t110 : Int).toNat).length : Int)
 {
 rw [if_pos c21] at H
 have c21b0 := eq_true c21
 have c21b1 : decide (4 ≤ (((l0.take ((wrap64 (t110 + 8)) : Int).toNat).drop (t110 : Int).toNat).length : Int)) = true := decide_eq_true c21
 (try (have c21b3 : (4 ≤ ((c0 - (t110 : Int).toNat : Nat) : Int)) = True := eq_true (by have hc_ := HC0.out; have hq_ := c21; simp only [List.length_drop, List.length_take] at hq_; omega)))
 (try (have c21b7 : (4 ≤ ((((wrap64 (t110 + 8)) : Int).toNat - (t110 : Int).toNat : Nat) : Int)) = True := eq_true (by have hq_ := c21; simp only [List.length_drop, List.length_take] at hq_; omega)))
 replace H := Option.bind_eq_some_iff.mp H
 obtain ⟨t123, A220, H⟩ := H
 replace H : ((spec_l03Num.f k (((l0.take ((wrap64 (t110 + 8)) : Int).toNat).drop (t110 : Int).toNat).drop 4)).bind fun t125 => (some (wrap64 (rd l0 9), t115, t117, t119, t121, t123, t125, 0))) = some (r1, r2, r3, r4, r5, r6, r7, r8) := H
 have A22 := Aside0.mk A220
 clear A220
 have c23b0 := eq_true (of_decide_eq_true (by first | (with_reducible assumption) | assumption) : 4 ≤ (((l0.take ((wrap64 (t110 + 8)) : Int).toNat).drop (t110 : Int).toNat).length : Int))
 replace H := Option.bind_eq_some_iff.mp H
 obtain ⟨t125, A240, H⟩ := H
 replace H : (some (wrap64 (rd l0 9), t115, t117, t119, t121, t123, t125, 0)) = some (r1, r2, r3, r4, r5, r6, r7, r8) := H
 have A24 := Aside0.mk A240
 clear A240
 simp only [Option.some.injEq, Prod.mk.injEq] at H
 obtain ⟨rfl, rfl, rfl, rfl, rfl, rfl, rfl, rfl⟩ := H
 go_enter Try.func18, Try.ntmps18
 try go_wp2_with (first | ((with_reducible refine gate_dst (N := 2) rfl ?_); refine box_event ?hg (N := 2) ?hd (cs := #[.int .i64 0, .int .i64 0, .int .i64 0, .int .i64 0, .int .i64 0, .int .i64 0, .int .i64 0]) (t := 38) ?hr ?_; (case hd => rfl); (case hg => rfl); (case hr => first | (go_simp; done) | (go_simp; rfl)); intro gb109 hg w1001 hbox hb; have n0_ := Aside0.mk (below_step wB hb); have n1_ := Aside0.mk (hbox); have n2_ := Aside0.mk ((by rw [hg]; exact (below_size wB) : w.heap.size ≤ gb109)); have n3_ := Aside0.mk ((by rw [hg]; exact (below_size wB) : w.heap.size ≤ gb109)); clear HB; have HB := n0_; have BK109 := n1_; have GW109 := n2_; have GE109 := n3_; clear n0_ n1_ n2_ n3_; clear hb hbox hg) | ((with_reducible refine gate_callee (f := 69) rfl ?_); refine goesL_ (some 9) rfl rfl Try.func69 (by kernel_rfl) rfl #[.slice A0 l0.length c0] rfl wT ?_; (with_reducible refine (spec_l05ReadHead.calls k _ _ l0 t110 t111 _ ?side1 ?side2 A2.out).mono ?_); (case side1 => exact Kd.C_below HR0.out wB); (case side2 => exact HC0.out); rintro e w' ⟨rfl, ⟨nd, rfl⟩⟩; refine ⟨_, rfl, ?_⟩; (try (rw [drewN_self w1001]; generalize hq_ : World.drewN w1001 _ = w1001; have n0_ := Aside0.mk (blk_at hq_ BK109.out); have n1_ := Aside0.mk (below_at hq_ HB.out); clear hq_ BK109 HB; have BK109 := n0_; have HB := n1_; clear n0_ n1_; (try (obtain ⟨⟨hcyBK109_0, hcyBK109_1, hcyBK109_2, hcyBK109_3, hcyBK109_4, hcyBK109_5, hcyBK109_6⟩, hfyBK109_0, hfyBK109_1, hfyBK109_2, hfyBK109_3, hfyBK109_4, hfyBK109_5, hfyBK109_6⟩ := cells7 BK109.out)))); obtain ⟨i01002, hi01002, _, hsz1002, _⟩ := info_parts info5; obtain ⟨A1002, hcut1002, hA1002, hC1002⟩ := print_mid_of (P := Try.prog) (Value.int .u8) 0 22 5 .i64 .i64 Try.underlying22 hi01002 hsz1002 A0 c0 l0 t110 (wrap64 (t110 + 8)) (of_decide_eq_true (by first | (with_reducible assumption) | assumption)) (by first | omega | exact of_decide_eq_true (by first | (with_reducible assumption) | assumption)) (of_decide_eq_true (by first | (with_reducible assumption) | assumption)) HC0.out; have HR112 := Aside0.mk (Kd.C_of_reads (h1 := fun _ => rfl) (hA1002 _ (Kd.reads_of_C HR0.out))); have HC112 := Aside0.mk hC1002; clear hA1002 hC1002 hi01002 hsz1002))
 have n0_ := Aside0.mk (blk_drew BK109.out)
 have n1_ := Aside0.mk (below_drew1 HB.out)
 clear BK109
 clear HB
 have BK109 := n0_
 have HB := n1_
 clear n0_ n1_
 have p113 : 0 ≤ (9 : Int) := (by omega)
 have q113 : 9 < (l0.length : Int) := of_decide_eq_true (by first | (with_reducible assumption) | assumption)
 obtain ⟨ad113, e113, hx113_0⟩ := Kd.at_int HR0.out 9 p113 q113
 have hw113_0 := hx113_0
 (try rw [show ((9 : Int)).toNat = 9 from rfl] at hw113_0)
 (try rw [show 9 * 1 = 9 from rfl] at hw113_0)
 (try simp only [Nat.reduceMul, Nat.reduceEqDiff, Go.Addr.add, ↓reduceIte] at hw113_0)
 cases e113
 (try simp only [show (9 : Int).toNat = 9 from rfl, Nat.reduceMul, Nat.reduceEqDiff, Go.Addr.add, ↓reduceIte] at hx113_0)
 have qi113 : (9 < l0.length) = True := eq_true (by omega)
 (try rw [show ((9 : Int)).toNat = 9 from rfl] at hx113_0)
 replace hx113_0 := (HB.out.cell (World.block_lt_of_cell? w _ hx113_0)).trans hx113_0
 replace p113 := eq_true p113
 replace q113 := eq_true q113
 obtain ⟨i01004, hi01004, _, hsz1004, _⟩ := info_parts info5
 obtain ⟨A1004, hcut1004, hA1004, hC1004⟩ := print_mid_of (P := Try.prog) (Value.int .u8) 0 22 5 .i64 .i64 Try.underlying22 hi01004 hsz1004 (some ad113) c0 l0 12 16 (by omega) (by first | omega | exact of_decide_eq_true (by first | (with_reducible assumption) | assumption)) (of_decide_eq_true (by first | (with_reducible assumption) | assumption)) HC0.out
 have HR114 := Aside0.mk (Kd.C_of_reads (h1 := fun _ => rfl) (hA1004 _ (Kd.reads_of_C HR0.out)))
 have HC114 := Aside0.mk hC1004
 clear hA1004 hC1004 hi01004 hsz1004
 obtain ⟨i01005, hi01005, _, hsz1005, _⟩ := info_parts info5
 obtain ⟨A1005, hcut1005, hA1005, hC1005⟩ := print_mid_of (P := Try.prog) (Value.int .u8) 0 22 5 .i64 .i64 Try.underlying22 hi01005 hsz1005 (some ad113) c0 l0 16 20 (by omega) (by first | omega | exact of_decide_eq_true (by first | (with_reducible assumption) | assumption)) (of_decide_eq_true (by first | (with_reducible assumption) | assumption)) HC0.out
 have HR116 := Aside0.mk (Kd.C_of_reads (h1 := fun _ => rfl) (hA1005 _ (Kd.reads_of_C HR0.out)))
 have HC116 := Aside0.mk hC1005
 clear hA1005 hC1005 hi01005 hsz1005
 obtain ⟨i01006, hi01006, _, hsz1006, _⟩ := info_parts info5
 obtain ⟨A1006, hcut1006, hA1006, hC1006⟩ := print_mid_of (P := Try.prog) (Value.int .u8) 0 22 5 .i64 .i64 Try.underlying22 hi01006 hsz1006 (some ad113) c0 l0 4 6 (by omega) (by first | omega | exact of_decide_eq_true (by first | (with_reducible assumption) | assumption)) (of_decide_eq_true (by first | (with_reducible assumption) | assumption)) HC0.out
 have HR118 := Aside0.mk (Kd.C_of_reads (h1 := fun _ => rfl) (hA1006 _ (Kd.reads_of_C HR0.out)))
 have HC118 := Aside0.mk hC1006
 clear hA1006 hC1006 hi01006 hsz1006
 obtain ⟨i01007, hi01007, _, hsz1007, _⟩ := info_parts info5
 obtain ⟨hcut1007, hA1007, hC1007⟩ := print_take_of (P := Try.prog) (Value.int .u8) 0 22 5 .i64 Try.underlying22 hi01007 hsz1007 A1002 (c0 - t110.toNat) ((l0.take ((wrap64 (t110 + 8)) : Int).toNat).drop (t110 : Int).toNat) 2 (by omega) (of_decide_eq_true (by first | (with_reducible assumption) | assumption)) HC112.out
 have HR120 := Aside0.mk (Kd.C_of_reads (h1 := fun _ => rfl) (hA1007 _ (Kd.reads_of_C HR112.out)))
 have HC120 := Aside0.mk hC1007
 clear hA1007 hC1007 hi01007 hsz1007
 (try (have hcu1007 := hcut1007; (try simp only [Int.reduceToNat] at hcu1007); rw [show (((l0.take ((wrap64 (t110 + 8)) : Int).toNat).drop (t110 : Int).toNat).take 2).length = 2 from (by rw [List.length_take]; have h_ : (2 : Int) ≤ (((l0.take ((wrap64 (t110 + 8)) : Int).toNat).drop (t110 : Int).toNat).length : Int) := of_decide_eq_true (by first | (with_reducible assumption) | assumption); omega), show ((l0.take ((wrap64 (t110 + 8)) : Int).toNat).drop (t110 : Int).toNat).length = ((wrap64 (t110 + 8)).toNat - t110.toNat) from (by rw [List.length_drop, List.length_take]; have h_ : ((wrap64 (t110 + 8)) : Int) ≤ (l0.length : Int) := of_decide_eq_true (by first | (with_reducible assumption) | assumption); omega)] at hcu1007))
 obtain ⟨i01008, hi01008, _, hsz1008, _⟩ := info_parts info5
 obtain ⟨A1008, hcut1008, hA1008, hC1008⟩ := print_mid_of (P := Try.prog) (Value.int .u8) 0 22 5 .i64 .i64 Try.underlying22 hi01008 hsz1008 A1002 (c0 - t110.toNat) ((l0.take ((wrap64 (t110 + 8)) : Int).toNat).drop (t110 : Int).toNat) 2 4 (by omega) (by first | omega | exact of_decide_eq_true (by first | (with_reducible assumption) | assumption)) (of_decide_eq_true (by first | (with_reducible assumption) | assumption)) HC112.out
 have HR122 := Aside0.mk (Kd.C_of_reads (h1 := fun _ => rfl) (hA1008 _ (Kd.reads_of_C HR112.out)))
 have HC122 := Aside0.mk hC1008
 clear hA1008 hC1008 hi01008 hsz1008
 (try (have hcu1008 := hcut1008; (try simp only [Int.reduceToNat] at hcu1008); rw [show ((((l0.take ((wrap64 (t110 + 8)) : Int).toNat).drop (t110 : Int).toNat).take 4).drop 2).length = (4 - 2) from (by rw [List.length_drop, List.length_take]; have h_ : (4 : Int) ≤ (((l0.take ((wrap64 (t110 + 8)) : Int).toNat).drop (t110 : Int).toNat).length : Int) := of_decide_eq_true (by first | (with_reducible assumption) | assumption); omega), show ((l0.take ((wrap64 (t110 + 8)) : Int).toNat).drop (t110 : Int).toNat).length = ((wrap64 (t110 + 8)).toNat - t110.toNat) from (by rw [List.length_drop, List.length_take]; have h_ : ((wrap64 (t110 + 8)) : Int) ≤ (l0.length : Int) := of_decide_eq_true (by first | (with_reducible assumption) | assumption); omega)] at hcu1008))
 obtain ⟨i01009, hi01009, _, hsz1009, _⟩ := info_parts info5
 obtain ⟨A1009, hcut1009, hA1009, hC1009⟩ := print_drop_of (P := Try.prog) (Value.int .u8) 0 22 5 .i64 Try.underlying22 hi01009 hsz1009 A1002 (c0 - t110.toNat) ((l0.take ((wrap64 (t110 + 8)) : Int).toNat).drop (t110 : Int).toNat) 4 (by omega) (of_decide_eq_true (by first | (with_reducible assumption) | assumption)) HC112.out
 have HR124 := Aside0.mk (Kd.C_of_reads (h1 := fun _ => rfl) (hA1009 _ (Kd.reads_of_C HR112.out)))
 have HC124 := Aside0.mk hC1009
 clear hA1009 hC1009 hi01009 hsz1009
 (try (have hcu1009 := hcut1009; (try simp only [Int.reduceToNat] at hcu1009); rw [show (((l0.take ((wrap64 (t110 + 8)) : Int).toNat).drop (t110 : Int).toNat).drop 4).length = (((wrap64 (t110 + 8)).toNat - t110.toNat) - 4) from (by rw [List.length_drop, show ((l0.take ((wrap64 (t110 + 8)) : Int).toNat).drop (t110 : Int).toNat).length = ((wrap64 (t110 + 8)).toNat - t110.toNat) from (by rw [List.length_drop, List.length_take]; have h_ : ((wrap64 (t110 + 8)) : Int) ≤ (l0.length : Int) := of_decide_eq_true (by first | (with_reducible assumption) | assumption); omega)]), show ((l0.take ((wrap64 (t110 + 8)) : Int).toNat).drop (t110 : Int).toNat).length = ((wrap64 (t110 + 8)).toNat - t110.toNat) from (by rw [List.length_drop, List.length_take]; have h_ : ((wrap64 (t110 + 8)) : Int) ≤ (l0.length : Int) := of_decide_eq_true (by first | (with_reducible assumption) | assumption); omega)] at hcu1009))
 refine start_ (n := 25) (S := fun w' => w'.cell? ⟨ad113.block, ad113.off + 9, none⟩ = some (.int .u8 (rd l0 9))) (ds := []) #[false, false, false, false, false, false, false, false, false, false, false, false, false, false, false, false, false, false, false, false, false, false, false, false, false] (by kernel_rfl) rfl rfl (((HB.out.cell (World.block_lt_of_cell? w _ hw113_0)).trans hw113_0)) (fun hHeld => ?_); refine with_tabW spec_ReadQuote.tab7 spec_ReadQuote.bits7 (fun HT_ HW_ => ?_)
 generalize w1001.drew = w1003 at BK109 HB HR114 HR116 HR118 HR120 HR122 HR124 hx113_0 hHeld ⊢
 refine pure_ (i := 0) (N := some 27) (v := ?_) (a' := ?_) #[true, false, false, false, false, false, false, false, false, false, false, false, false, false, false, false, false, false, false, false, false, false, false, false, false] rfl rfl (any_of HT_.out (by kernel_rfl)) (fun _ _ _ h => h) (Or.inl ⟨by rfl, ?_⟩) ?_ ?_
 rotate_left
 {
 intro w'
 go_simp
 with_reducible rfl
 }
 rotate_left
 {
 simp only [Act.put, List.setIfInBounds_toArray, List.set_cons_zero, List.set_cons_succ, i64_w, i32_w]
 rfl
 }
 refine pure_ (i := 1) (N := some 28) (v := ?_) (a' := ?_) #[true, true, false, false, false, false, false, false, false, false, false, false, false, false, false, false, false, false, false, false, false, false, false, false, false] rfl rfl (any_of HT_.out (by kernel_rfl)) (fun _ _ _ h => h) (Or.inl ⟨by rfl, ?_⟩) ?_ ?_
 rotate_left
 {
 intro w'
 go_simp
 with_reducible rfl
 }
 rotate_left
 {
 simp only [Act.put, List.setIfInBounds_toArray, List.set_cons_zero, List.set_cons_succ, i64_w, i32_w]
 rfl
 }
 refine pure_ (i := 4) (N := some 31) (v := ?_) (a' := ?_) #[true, true, false, false, true, false, false, false, false, false, false, false, false, false, false, false, false, false, false, false, false, false, false, false, false] rfl rfl (any_of HT_.out (by kernel_rfl)) (fun _ _ _ h => h) (Or.inl ⟨by rfl, ?_⟩) ?_ ?_
 rotate_left
 {
 intro w'
 go_simp
 with_reducible rfl
 }
 rotate_left
 {
 simp only [Act.put, List.setIfInBounds_toArray, List.set_cons_zero, List.set_cons_succ, i64_w, i32_w]
 rfl
 }
 refine pure_ (i := 5) (N := some 32) (v := ?_) (a' := ?_) #[true, true, false, false, true, true, false, false, false, false, false, false, false, false, false, false, false, false, false, false, false, false, false, false, false] rfl rfl (any_of HT_.out (by kernel_rfl)) (fun _ _ _ h => h) (Or.inl ⟨by rfl, ?_⟩) ?_ ?_
 rotate_left
 {
 intro w'
 go_simp
 with_reducible rfl
 }
 rotate_left
 {
 simp only [Act.put, List.setIfInBounds_toArray, List.set_cons_zero, List.set_cons_succ, i64_w, i32_w]
 rfl
 }
 refine pure_ (i := 7) (N := some 34) (v := ?_) (a' := ?_) #[true, true, false, false, true, true, false, true, false, false, false, false, false, false, false, false, false, false, false, false, false, false, false, false, false] rfl rfl (any_of HT_.out (by kernel_rfl)) (fun _ _ _ h => h) (Or.inl ⟨by rfl, ?_⟩) ?_ ?_
 rotate_left
 {
 intro w'
 go_simp
 with_reducible rfl
 }
 rotate_left
 {
 simp only [Act.put, List.setIfInBounds_toArray, List.set_cons_zero, List.set_cons_succ, i64_w, i32_w]
 rfl
 }
 refine pure_ (i := 8) (N := some 35) (v := ?_) (a' := ?_) #[true, true, false, false, true, true, false, true, true, false, false, false, false, false, false, false, false, false, false, false, false, false, false, false, false] rfl rfl (any_of HT_.out (by kernel_rfl)) (fun _ _ _ h => h) (Or.inl ⟨by rfl, ?_⟩) ?_ ?_
 rotate_left
 {
 intro w'
 go_simp
 with_reducible rfl
 }
 rotate_left
 {
 simp only [Act.put, List.setIfInBounds_toArray, List.set_cons_zero, List.set_cons_succ, i64_w, i32_w]
 rfl
 }
 refine pure_ (i := 10) (N := some 37) (v := ?_) (a' := ?_) #[true, true, false, false, true, true, false, true, true, false, true, false, false, false, false, false, false, false, false, false, false, false, false, false, false] rfl rfl (any_of HT_.out (by kernel_rfl)) (fun _ _ _ h => h) (Or.inl ⟨by rfl, ?_⟩) ?_ ?_
 rotate_left
 {
 intro w'
 go_simp
 with_reducible rfl
 }
 rotate_left
 {
 simp only [Act.put, List.setIfInBounds_toArray, List.set_cons_zero, List.set_cons_succ, i64_w, i32_w]
 rfl
 }
 refine pure_ (i := 11) (N := some 38) (v := ?_) (a' := ?_) #[true, true, false, false, true, true, false, true, true, false, true, true, false, false, false, false, false, false, false, false, false, false, false, false, false] rfl rfl (any_of HT_.out (by kernel_rfl)) (fun _ _ _ h => h) (Or.inl ⟨by rfl, ?_⟩) ?_ ?_
 rotate_left
 {
 intro w'
 go_simp
 with_reducible rfl
 }
 rotate_left
 {
 simp only [Act.put, List.setIfInBounds_toArray, List.set_cons_zero, List.set_cons_succ, i64_w, i32_w]
 rfl
 }
 refine pure_ (i := 13) (N := some 40) (v := ?_) (a' := ?_) #[true, true, false, false, true, true, false, true, true, false, true, true, false, true, false, false, false, false, false, false, false, false, false, false, false] rfl rfl (any_of HT_.out (by kernel_rfl)) (fun _ _ _ h => h) (Or.inl ⟨by rfl, ?_⟩) ?_ ?_
 rotate_left
 {
 intro w'
 go_simp
 with_reducible rfl
 }
 rotate_left
 {
 simp only [Act.put, List.setIfInBounds_toArray, List.set_cons_zero, List.set_cons_succ, i64_w, i32_w]
 rfl
 }
 refine pure_ (i := 14) (N := some 41) (v := ?_) (a' := ?_) #[true, true, false, false, true, true, false, true, true, false, true, true, false, true, true, false, false, false, false, false, false, false, false, false, false] rfl rfl (any_of HT_.out (by kernel_rfl)) (fun _ _ _ h => h) (Or.inl ⟨by rfl, ?_⟩) ?_ ?_
 rotate_left
 {
 intro w'
 go_simp
 with_reducible rfl
 }
 rotate_left
 {
 simp only [Act.put, List.setIfInBounds_toArray, List.set_cons_zero, List.set_cons_succ, i64_w, i32_w]
 rfl
 }
 refine pure_ (i := 16) (N := some 43) (v := ?_) (a' := ?_) #[true, true, false, false, true, true, false, true, true, false, true, true, false, true, true, false, true, false, false, false, false, false, false, false, false] rfl rfl (any_of HT_.out (by kernel_rfl)) (fun _ _ _ h => h) (Or.inl ⟨by rfl, ?_⟩) ?_ ?_
 rotate_left
 {
 intro w'
 go_simp
 with_reducible rfl
 }
 rotate_left
 {
 simp only [Act.put, List.setIfInBounds_toArray, List.set_cons_zero, List.set_cons_succ, i64_w, i32_w]
 rfl
 }
 refine pure_ (i := 17) (N := some 44) (v := ?_) (a' := ?_) #[true, true, false, false, true, true, false, true, true, false, true, true, false, true, true, false, true, true, false, false, false, false, false, false, false] rfl rfl (any_of HT_.out (by kernel_rfl)) (fun _ _ _ h => h) (Or.inl ⟨by rfl, ?_⟩) ?_ ?_
 rotate_left
 {
 intro w'
 go_simp
 with_reducible rfl
 }
 rotate_left
 {
 simp only [Act.put, List.setIfInBounds_toArray, List.set_cons_zero, List.set_cons_succ, i64_w, i32_w]
 rfl
 }
 refine pure_ (i := 19) (N := some 46) (v := ?_) (a' := ?_) #[true, true, false, false, true, true, false, true, true, false, true, true, false, true, true, false, true, true, false, true, false, false, false, false, false] rfl rfl (any_of HT_.out (by kernel_rfl)) (fun _ _ _ h => h) (Or.inl ⟨by rfl, ?_⟩) ?_ ?_
 rotate_left
 {
 intro w'
 go_simp
 with_reducible rfl
 }
 rotate_left
 {
 simp only [Act.put, List.setIfInBounds_toArray, List.set_cons_zero, List.set_cons_succ, i64_w, i32_w]
 rfl
 }
 refine pure_ (i := 20) (N := some 47) (v := ?_) (a' := ?_) #[true, true, false, false, true, true, false, true, true, false, true, true, false, true, true, false, true, true, false, true, true, false, false, false, false] rfl rfl (any_of HT_.out (by kernel_rfl)) (fun _ _ _ h => h) (Or.inl ⟨by rfl, ?_⟩) ?_ ?_
 rotate_left
 {
 intro w'
 go_simp
 with_reducible rfl
 }
 rotate_left
 {
 simp only [Act.put, List.setIfInBounds_toArray, List.set_cons_zero, List.set_cons_succ, i64_w, i32_w]
 rfl
 }
 refine take_ (i := 2) (N := some 29) (v := ?_) (a' := ?_) #[true, true, true, false, true, true, false, true, true, false, true, true, false, true, true, false, true, true, false, true, true, false, false, false, false] rfl rfl (take_ofW HT_.out HW_.out (by kernel_rfl)) (fun _ _ _ h => h) (Or.inl ⟨by rfl, ?_⟩) hHeld ?_ ?_
 rotate_left
 {
 intro w' s0
 go_simp
 with_reducible rfl
 }
 rotate_left
 {
 simp only [Act.put, List.setIfInBounds_toArray, List.set_cons_zero, List.set_cons_succ, i64_w, i32_w]
 rfl
 }
 refine pure_ (i := 3) (N := some 30) (v := ?_) (a' := ?_) #[true, true, true, true, true, true, false, true, true, false, true, true, false, true, true, false, true, true, false, true, true, false, false, false, false] rfl rfl (any_of HT_.out (by kernel_rfl)) (fun _ _ _ h => h) (Or.inl ⟨by rfl, ?_⟩) ?_ ?_
 rotate_left
 {
 intro w'
 go_simp
 with_reducible rfl
 }
 rotate_left
 {
 simp only [Act.put, List.setIfInBounds_toArray, List.set_cons_zero, List.set_cons_succ, i64_w, i32_w]
 rfl
 }
 refine one_ (i := 6) (N := some 33) #[true, true, true, true, true, true, true, true, true, false, true, true, false, true, true, false, true, true, false, true, true, false, false, false, false] rfl rfl (one_of HT_.out (by kernel_rfl)) (by decide) (fun K hK => ?_)
 refine goes_ Try.func70 (by kernel_rfl) rfl #[.slice A1004 ((l0.take 16).drop 12).length (c0 - 12)] (by rfl) rfl rfl (by (try simp only [List.map_toArray, List.map_cons, List.map_nil]); first | done | (rw [show ((l0.take 16).drop 12).length = (16 - 12) from (by rw [List.length_drop, List.length_take]; have h_ : (16 : Int) ≤ (l0.length : Int) := of_decide_eq_true (by first | (with_reducible assumption) | assumption); omega)] <;> rfl) | rfl | (simp only [List.length_drop, List.length_take]; rfl)) ?_
 with_reducible refine (spec_l03Num.calls k _ _ ((l0.take 16).drop 12) t115 _ ?side1 ?side2 A11.out).mono ?_
 (case side1 => exact Kd.C_below HR114.out wB)
 (case side2 => exact HC114.out)
 rintro e w' ⟨rfl, ⟨nd, rfl⟩⟩
 refine ⟨_, rfl, ?_⟩
 refine hK.out _ _ (((HB.out.cell (World.block_lt_of_cell? w _ hw113_0)).trans hw113_0)) (fun hHeld => ?_)
 clear hK K
 refine norm_ (a' := ?_) ?_ ?_
 rotate_left
 {
 show Act.put _ (some 33) _ = _
 simp only [Act.put, List.setIfInBounds_toArray, List.set_cons_zero, List.set_cons_succ, i64_w, i32_w]
 rfl
 }
 refine one_ (i := 9) (N := some 36) #[true, true, true, true, true, true, true, true, true, true, true, true, false, true, true, false, true, true, false, true, true, false, false, false, false] rfl rfl (one_of HT_.out (by kernel_rfl)) (by decide) (fun K hK => ?_)
 refine goes_ Try.func70 (by kernel_rfl) rfl #[.slice A1005 ((l0.take 20).drop 16).length (c0 - 16)] (by rfl) rfl rfl (by (try simp only [List.map_toArray, List.map_cons, List.map_nil]); first | done | (rw [show ((l0.take 20).drop 16).length = (20 - 16) from (by rw [List.length_drop, List.length_take]; have h_ : (20 : Int) ≤ (l0.length : Int) := of_decide_eq_true (by first | (with_reducible assumption) | assumption); omega)] <;> rfl) | rfl | (simp only [List.length_drop, List.length_take]; rfl)) ?_
 with_reducible refine (spec_l03Num.calls k _ _ ((l0.take 20).drop 16) t117 _ ?side1 ?side2 A14.out).mono ?_
 (case side1 => repeat (first | exact (Kd.C_below HR116.out wB) | (with_reducible refine Kd.C_alloc ?_ _) | (with_reducible refine Kd.C_drewN ?_ _) | (with_reducible refine Kd.C_drew ?_)))
 (case side2 => exact HC116.out)
 rintro e w' ⟨rfl, ⟨nd, rfl⟩⟩
 refine ⟨_, rfl, ?_⟩
 refine hK.out _ _ (((HB.out.cell (World.block_lt_of_cell? w _ hw113_0)).trans hw113_0)) (fun hHeld => ?_)
 clear hK K
 refine norm_ (a' := ?_) ?_ ?_
 rotate_left
 {
 show Act.put _ (some 36) _ = _
 simp only [Act.put, List.setIfInBounds_toArray, List.set_cons_zero, List.set_cons_succ, i64_w, i32_w]
 rfl
 }
 refine one_ (i := 12) (N := some 39) #[true, true, true, true, true, true, true, true, true, true, true, true, true, true, true, false, true, true, false, true, true, false, false, false, false] rfl rfl (one_of HT_.out (by kernel_rfl)) (by decide) (fun K hK => ?_)
 refine goes_ Try.func70 (by kernel_rfl) rfl #[.slice A1006 ((l0.take 6).drop 4).length (c0 - 4)] (by rfl) rfl rfl (by (try simp only [List.map_toArray, List.map_cons, List.map_nil]); first | done | (rw [show ((l0.take 6).drop 4).length = (6 - 4) from (by rw [List.length_drop, List.length_take]; have h_ : (6 : Int) ≤ (l0.length : Int) := of_decide_eq_true (by first | (with_reducible assumption) | assumption); omega)] <;> rfl) | rfl | (simp only [List.length_drop, List.length_take]; rfl)) ?_
 with_reducible refine (spec_l03Num.calls k _ _ ((l0.take 6).drop 4) t119 _ ?side1 ?side2 A17.out).mono ?_
 (case side1 => repeat (first | exact (Kd.C_below HR118.out wB) | (with_reducible refine Kd.C_alloc ?_ _) | (with_reducible refine Kd.C_drewN ?_ _) | (with_reducible refine Kd.C_drew ?_)))
 (case side2 => exact HC118.out)
 rintro e w' ⟨rfl, ⟨nd, rfl⟩⟩
 refine ⟨_, rfl, ?_⟩
 refine hK.out _ _ (((HB.out.cell (World.block_lt_of_cell? w _ hw113_0)).trans hw113_0)) (fun hHeld => ?_)
 clear hK K
 refine norm_ (a' := ?_) ?_ ?_
 rotate_left
 {
 show Act.put _ (some 39) _ = _
 simp only [Act.put, List.setIfInBounds_toArray, List.set_cons_zero, List.set_cons_succ, i64_w, i32_w]
 rfl
 }
 refine one_ (i := 15) (N := some 42) #[true, true, true, true, true, true, true, true, true, true, true, true, true, true, true, true, true, true, false, true, true, false, false, false, false] rfl rfl (one_of HT_.out (by kernel_rfl)) (by decide) (fun K hK => ?_)
 refine goes_ Try.func70 (by kernel_rfl) rfl #[.slice A1002 (((l0.take ((wrap64 (t110 + 8)) : Int).toNat).drop (t110 : Int).toNat).take 2).length (c0 - t110.toNat)] (by rfl) rfl rfl (by (try simp only [List.map_toArray, List.map_cons, List.map_nil]); first | done | (rw [show (((l0.take ((wrap64 (t110 + 8)) : Int).toNat).drop (t110 : Int).toNat).take 2).length = 2 from (by rw [List.length_take]; have h_ : (2 : Int) ≤ (((l0.take ((wrap64 (t110 + 8)) : Int).toNat).drop (t110 : Int).toNat).length : Int) := of_decide_eq_true (by first | (with_reducible assumption) | assumption); omega)] <;> rfl) | rfl | (simp only [List.length_drop, List.length_take]; rfl)) ?_
 with_reducible refine (spec_l03Num.calls k _ _ (((l0.take ((wrap64 (t110 + 8)) : Int).toNat).drop (t110 : Int).toNat).take 2) t121 _ ?side1 ?side2 A19.out).mono ?_
 (case side1 => repeat (first | exact (Kd.C_below HR120.out wB) | (with_reducible refine Kd.C_alloc ?_ _) | (with_reducible refine Kd.C_drewN ?_ _) | (with_reducible refine Kd.C_drew ?_)))
 (case side2 => exact HC120.out)
 rintro e w' ⟨rfl, ⟨nd, rfl⟩⟩
 refine ⟨_, rfl, ?_⟩
 refine hK.out _ _ (((HB.out.cell (World.block_lt_of_cell? w _ hw113_0)).trans hw113_0)) (fun hHeld => ?_)
 clear hK K
 refine norm_ (a' := ?_) ?_ ?_
 rotate_left
 {
 show Act.put _ (some 42) _ = _
 simp only [Act.put, List.setIfInBounds_toArray, List.set_cons_zero, List.set_cons_succ, i64_w, i32_w]
 rfl
 }
 refine one_ (i := 18) (N := some 45) #[true, true, true, true, true, true, true, true, true, true, true, true, true, true, true, true, true, true, true, true, true, false, false, false, false] rfl rfl (one_of HT_.out (by kernel_rfl)) (by decide) (fun K hK => ?_)
 refine goes_ Try.func70 (by kernel_rfl) rfl #[.slice A1008 ((((l0.take ((wrap64 (t110 + 8)) : Int).toNat).drop (t110 : Int).toNat).take 4).drop 2).length ((c0 - t110.toNat) - 2)] (by rfl) rfl rfl (by (try simp only [List.map_toArray, List.map_cons, List.map_nil]); first | done | (rw [show ((((l0.take ((wrap64 (t110 + 8)) : Int).toNat).drop (t110 : Int).toNat).take 4).drop 2).length = (4 - 2) from (by rw [List.length_drop, List.length_take]; have h_ : (4 : Int) ≤ (((l0.take ((wrap64 (t110 + 8)) : Int).toNat).drop (t110 : Int).toNat).length : Int) := of_decide_eq_true (by first | (with_reducible assumption) | assumption); omega)] <;> rfl) | rfl | (simp only [List.length_drop, List.length_take]; rfl)) ?_
 with_reducible refine (spec_l03Num.calls k _ _ ((((l0.take ((wrap64 (t110 + 8)) : Int).toNat).drop (t110 : Int).toNat).take 4).drop 2) t123 _ ?side1 ?side2 A22.out).mono ?_
 (case side1 => repeat (first | exact (Kd.C_below HR122.out wB) | (with_reducible refine Kd.C_alloc ?_ _) | (with_reducible refine Kd.C_drewN ?_ _) | (with_reducible refine Kd.C_drew ?_)))
 (case side2 => exact HC122.out)
 rintro e w' ⟨rfl, ⟨nd, rfl⟩⟩
 refine ⟨_, rfl, ?_⟩
 refine hK.out _ _ (((HB.out.cell (World.block_lt_of_cell? w _ hw113_0)).trans hw113_0)) (fun hHeld => ?_)
 clear hK K
 refine norm_ (a' := ?_) ?_ ?_
 rotate_left
 {
 show Act.put _ (some 45) _ = _
 simp only [Act.put, List.setIfInBounds_toArray, List.set_cons_zero, List.set_cons_succ, i64_w, i32_w]
 rfl
 }
 refine one_ (i := 21) (N := some 48) #[true, true, true, true, true, true, true, true, true, true, true, true, true, true, true, true, true, true, true, true, true, true, false, false, false] rfl rfl (one_of HT_.out (by kernel_rfl)) (by decide) (fun K hK => ?_)
 refine goes_ Try.func70 (by kernel_rfl) rfl #[.slice A1009 (((l0.take ((wrap64 (t110 + 8)) : Int).toNat).drop (t110 : Int).toNat).drop 4).length ((c0 - t110.toNat) - 4)] (by rfl) rfl rfl (by (try simp only [List.map_toArray, List.map_cons, List.map_nil]); first | done | (rw [show (((l0.take ((wrap64 (t110 + 8)) : Int).toNat).drop (t110 : Int).toNat).drop 4).length = (((wrap64 (t110 + 8)).toNat - t110.toNat) - 4) from (by rw [List.length_drop, show ((l0.take ((wrap64 (t110 + 8)) : Int).toNat).drop (t110 : Int).toNat).length = ((wrap64 (t110 + 8)).toNat - t110.toNat) from (by rw [List.length_drop, List.length_take]; have h_ : ((wrap64 (t110 + 8)) : Int) ≤ (l0.length : Int) := of_decide_eq_true (by first | (with_reducible assumption) | assumption); omega)])] <;> rfl) | rfl | (simp only [List.length_drop, List.length_take]; rfl)) ?_
 with_reducible refine (spec_l03Num.calls k _ _ (((l0.take ((wrap64 (t110 + 8)) : Int).toNat).drop (t110 : Int).toNat).drop 4) t125 _ ?side1 ?side2 A24.out).mono ?_
 (case side1 => repeat (first | exact (Kd.C_below HR124.out wB) | (with_reducible refine Kd.C_alloc ?_ _) | (with_reducible refine Kd.C_drewN ?_ _) | (with_reducible refine Kd.C_drew ?_)))
 (case side2 => exact HC124.out)
 rintro e w' ⟨rfl, ⟨nd, rfl⟩⟩
 refine ⟨_, rfl, ?_⟩
 refine hK.out _ _ (((HB.out.cell (World.block_lt_of_cell? w _ hw113_0)).trans hw113_0)) (fun hHeld => ?_)
 clear hK K
 refine norm_ (a' := ?_) ?_ ?_
 rotate_left
 {
 show Act.put _ (some 48) _ = _
 simp only [Act.put, List.setIfInBounds_toArray, List.set_cons_zero, List.set_cons_succ, i64_w, i32_w]
 rfl
 }
 refine pure_ (i := 22) (N := some 49) (v := ?_) (a' := ?_) #[true, true, true, true, true, true, true, true, true, true, true, true, true, true, true, true, true, true, true, true, true, true, true, false, false] rfl rfl (any_of HT_.out (by kernel_rfl)) (fun _ _ _ h => h) (Or.inl ⟨by rfl, ?_⟩) ?_ ?_
 rotate_left
 {
 intro w'
 go_simp
 with_reducible rfl
 }
 rotate_left
 {
 simp only [Act.put, List.setIfInBounds_toArray, List.set_cons_zero, List.set_cons_succ, i64_w, i32_w]
 rfl
 }
 refine one_ (i := 23) (N := none) #[true, true, true, true, true, true, true, true, true, true, true, true, true, true, true, true, true, true, true, true, true, true, true, true, false] rfl rfl (one_of HT_.out (by kernel_rfl)) (by decide) (fun K hK => ?_)
 have hs1010 : w1003.cell? ⟨gb109, 0, none⟩ = some (.int .i64 0) := (blk_cell BK109.out 0).trans rfl
 have hfs1010 := blk_frozen BK109.out 0
 have hs1011 : w1003.cell? ⟨gb109, 1, none⟩ = some (.int .i64 0) := (blk_cell BK109.out 1).trans rfl
 have hfs1011 := blk_frozen BK109.out 1
 have hs1012 : w1003.cell? ⟨gb109, 2, none⟩ = some (.int .i64 0) := (blk_cell BK109.out 2).trans rfl
 have hfs1012 := blk_frozen BK109.out 2
 have hs1013 : w1003.cell? ⟨gb109, 3, none⟩ = some (.int .i64 0) := (blk_cell BK109.out 3).trans rfl
 have hfs1013 := blk_frozen BK109.out 3
 have hs1014 : w1003.cell? ⟨gb109, 4, none⟩ = some (.int .i64 0) := (blk_cell BK109.out 4).trans rfl
 have hfs1014 := blk_frozen BK109.out 4
 have hs1015 : w1003.cell? ⟨gb109, 5, none⟩ = some (.int .i64 0) := (blk_cell BK109.out 5).trans rfl
 have hfs1015 := blk_frozen BK109.out 5
 have hs1016 : w1003.cell? ⟨gb109, 6, none⟩ = some (.int .i64 0) := (blk_cell BK109.out 6).trans rfl
 have hfs1016 := blk_frozen BK109.out 6
 refine skip_ (w1 := ?_) (by rfl) rfl ?_ ?_
 rotate_left
 {
 go_simp
 rfl
 }
 refine hK.out _ _ (((cell_far (p := ⟨gb109, _, none⟩) (by first | exact Nat.ne_of_lt (Nat.lt_of_lt_of_le (by have := World.block_lt_of_cell? _ _ hw113_0; first | rwa [add_block] at this | exact this) GW109.out) | (rw [add_block]; exact Nat.ne_of_lt (Nat.lt_of_lt_of_le (by have := World.block_lt_of_cell? _ _ hw113_0; first | rwa [add_block] at this | exact this) GW109.out)) | (show (Addr.add _ _).block ≠ _; rw [add_block]; exact Nat.ne_of_lt (Nat.lt_of_lt_of_le (by have := World.block_lt_of_cell? _ _ hw113_0; first | rwa [add_block] at this | exact this) GW109.out)) | (dsimp only; exact Nat.ne_of_lt (Nat.lt_of_lt_of_le (by have := World.block_lt_of_cell? _ _ hw113_0; first | rwa [add_block] at this | exact this) GW109.out))) _).trans (((cell_far (p := ⟨gb109, _, none⟩) (by first | exact Nat.ne_of_lt (Nat.lt_of_lt_of_le (by have := World.block_lt_of_cell? _ _ hw113_0; first | rwa [add_block] at this | exact this) GW109.out) | (rw [add_block]; exact Nat.ne_of_lt (Nat.lt_of_lt_of_le (by have := World.block_lt_of_cell? _ _ hw113_0; first | rwa [add_block] at this | exact this) GW109.out)) | (show (Addr.add _ _).block ≠ _; rw [add_block]; exact Nat.ne_of_lt (Nat.lt_of_lt_of_le (by have := World.block_lt_of_cell? _ _ hw113_0; first | rwa [add_block] at this | exact this) GW109.out)) | (dsimp only; exact Nat.ne_of_lt (Nat.lt_of_lt_of_le (by have := World.block_lt_of_cell? _ _ hw113_0; first | rwa [add_block] at this | exact this) GW109.out))) _).trans (((cell_far (p := ⟨gb109, _, none⟩) (by first | exact Nat.ne_of_lt (Nat.lt_of_lt_of_le (by have := World.block_lt_of_cell? _ _ hw113_0; first | rwa [add_block] at this | exact this) GW109.out) | (rw [add_block]; exact Nat.ne_of_lt (Nat.lt_of_lt_of_le (by have := World.block_lt_of_cell? _ _ hw113_0; first | rwa [add_block] at this | exact this) GW109.out)) | (show (Addr.add _ _).block ≠ _; rw [add_block]; exact Nat.ne_of_lt (Nat.lt_of_lt_of_le (by have := World.block_lt_of_cell? _ _ hw113_0; first | rwa [add_block] at this | exact this) GW109.out)) | (dsimp only; exact Nat.ne_of_lt (Nat.lt_of_lt_of_le (by have := World.block_lt_of_cell? _ _ hw113_0; first | rwa [add_block] at this | exact this) GW109.out))) _).trans (((cell_far (p := ⟨gb109, _, none⟩) (by first | exact Nat.ne_of_lt (Nat.lt_of_lt_of_le (by have := World.block_lt_of_cell? _ _ hw113_0; first | rwa [add_block] at this | exact this) GW109.out) | (rw [add_block]; exact Nat.ne_of_lt (Nat.lt_of_lt_of_le (by have := World.block_lt_of_cell? _ _ hw113_0; first | rwa [add_block] at this | exact this) GW109.out)) | (show (Addr.add _ _).block ≠ _; rw [add_block]; exact Nat.ne_of_lt (Nat.lt_of_lt_of_le (by have := World.block_lt_of_cell? _ _ hw113_0; first | rwa [add_block] at this | exact this) GW109.out)) | (dsimp only; exact Nat.ne_of_lt (Nat.lt_of_lt_of_le (by have := World.block_lt_of_cell? _ _ hw113_0; first | rwa [add_block] at this | exact this) GW109.out))) _).trans (((cell_far (p := ⟨gb109, _, none⟩) (by first | exact Nat.ne_of_lt (Nat.lt_of_lt_of_le (by have := World.block_lt_of_cell? _ _ hw113_0; first | rwa [add_block] at this | exact this) GW109.out) | (rw [add_block]; exact Nat.ne_of_lt (Nat.lt_of_lt_of_le (by have := World.block_lt_of_cell? _ _ hw113_0; first | rwa [add_block] at this | exact this) GW109.out)) | (show (Addr.add _ _).block ≠ _; rw [add_block]; exact Nat.ne_of_lt (Nat.lt_of_lt_of_le (by have := World.block_lt_of_cell? _ _ hw113_0; first | rwa [add_block] at this | exact this) GW109.out)) | (dsimp only; exact Nat.ne_of_lt (Nat.lt_of_lt_of_le (by have := World.block_lt_of_cell? _ _ hw113_0; first | rwa [add_block] at this | exact this) GW109.out))) _).trans (((cell_far (p := ⟨gb109, _, none⟩) (by first | exact Nat.ne_of_lt (Nat.lt_of_lt_of_le (by have := World.block_lt_of_cell? _ _ hw113_0; first | rwa [add_block] at this | exact this) GW109.out) | (rw [add_block]; exact Nat.ne_of_lt (Nat.lt_of_lt_of_le (by have := World.block_lt_of_cell? _ _ hw113_0; first | rwa [add_block] at this | exact this) GW109.out)) | (show (Addr.add _ _).block ≠ _; rw [add_block]; exact Nat.ne_of_lt (Nat.lt_of_lt_of_le (by have := World.block_lt_of_cell? _ _ hw113_0; first | rwa [add_block] at this | exact this) GW109.out)) | (dsimp only; exact Nat.ne_of_lt (Nat.lt_of_lt_of_le (by have := World.block_lt_of_cell? _ _ hw113_0; first | rwa [add_block] at this | exact this) GW109.out))) _).trans (((cell_far (p := ⟨gb109, _, none⟩) (by first | exact Nat.ne_of_lt (Nat.lt_of_lt_of_le (by have := World.block_lt_of_cell? _ _ hw113_0; first | rwa [add_block] at this | exact this) GW109.out) | (rw [add_block]; exact Nat.ne_of_lt (Nat.lt_of_lt_of_le (by have := World.block_lt_of_cell? _ _ hw113_0; first | rwa [add_block] at this | exact this) GW109.out)) | (show (Addr.add _ _).block ≠ _; rw [add_block]; exact Nat.ne_of_lt (Nat.lt_of_lt_of_le (by have := World.block_lt_of_cell? _ _ hw113_0; first | rwa [add_block] at this | exact this) GW109.out)) | (dsimp only; exact Nat.ne_of_lt (Nat.lt_of_lt_of_le (by have := World.block_lt_of_cell? _ _ hw113_0; first | rwa [add_block] at this | exact this) GW109.out))) _).trans (hHeld))))))))))))))) (fun hHeld => ?_)
 clear hK K
 refine pure_ (i := 24) (N := some 3) (v := ?_) (a' := ?_) #[true, true, true, true, true, true, true, true, true, true, true, true, true, true, true, true, true, true, true, true, true, true, true, true, true] rfl rfl (any_of HT_.out (by kernel_rfl)) (fun _ _ _ h => h) (Or.inl ⟨by rfl, ?_⟩) ?_ ?_
 rotate_left
 {
 intro w'
 go_simp
 with_reducible rfl
 }
 rotate_left
 {
 simp only [Act.put, List.setIfInBounds_toArray, List.set_cons_zero, List.set_cons_succ, i64_w, i32_w]
 rfl
 }
 refine done_ (done_of HT_.out (by kernel_rfl)) ?_
 try go_wp2
 refine bodyPost_ret (results_ct rfl _ _ gb109 38 #[.int .i64 (wrap64 (rd l0 9)), .int .i64 t115, .int .i64 t117, .int .i64 t119, .int .i64 t121, .int .i64 t123, .int .i64 t125] (0, 0) _ rfl (by (with_reducible repeat (first | refine blk_drewN ?_ _ | refine blk_drew ?_ | refine blk_alloc ?_ _)); refine blk_put (cs := #[.int .i64 (wrap64 (rd l0 9)), .int .i64 t115, .int .i64 t117, .int .i64 t119, .int .i64 t121, .int .i64 t123, .int .i64 0]) ?_ 6 _ rfl; (with_reducible repeat (first | refine blk_drewN ?_ _ | refine blk_drew ?_ | refine blk_alloc ?_ _)); refine blk_put (cs := #[.int .i64 (wrap64 (rd l0 9)), .int .i64 t115, .int .i64 t117, .int .i64 t119, .int .i64 t121, .int .i64 0, .int .i64 0]) ?_ 5 _ rfl; (with_reducible repeat (first | refine blk_drewN ?_ _ | refine blk_drew ?_ | refine blk_alloc ?_ _)); refine blk_put (cs := #[.int .i64 (wrap64 (rd l0 9)), .int .i64 t115, .int .i64 t117, .int .i64 t119, .int .i64 0, .int .i64 0, .int .i64 0]) ?_ 4 _ rfl; (with_reducible repeat (first | refine blk_drewN ?_ _ | refine blk_drew ?_ | refine blk_alloc ?_ _)); refine blk_put (cs := #[.int .i64 (wrap64 (rd l0 9)), .int .i64 t115, .int .i64 t117, .int .i64 0, .int .i64 0, .int .i64 0, .int .i64 0]) ?_ 3 _ rfl; (with_reducible repeat (first | refine blk_drewN ?_ _ | refine blk_drew ?_ | refine blk_alloc ?_ _)); refine blk_put (cs := #[.int .i64 (wrap64 (rd l0 9)), .int .i64 t115, .int .i64 0, .int .i64 0, .int .i64 0, .int .i64 0, .int .i64 0]) ?_ 2 _ rfl; (with_reducible repeat (first | refine blk_drewN ?_ _ | refine blk_drew ?_ | refine blk_alloc ?_ _)); refine blk_put (cs := #[.int .i64 (wrap64 (rd l0 9)), .int .i64 0, .int .i64 0, .int .i64 0, .int .i64 0, .int .i64 0, .int .i64 0]) ?_ 1 _ rfl; (with_reducible repeat (first | refine blk_drewN ?_ _ | refine blk_drew ?_ | refine blk_alloc ?_ _)); refine blk_put (cs := #[.int .i64 0, .int .i64 0, .int .i64 0, .int .i64 0, .int .i64 0, .int .i64 0, .int .i64 0]) ?_ 0 _ rfl; (with_reducible repeat (first | refine blk_drewN ?_ _ | refine blk_drew ?_ | refine blk_alloc ?_ _)); exact BK109.out) Try.underlying38 rfl (by kernel_rfl)) rfl ?_
 exact ⟨by first | rfl | (simp [errW_none, errW_some] <;> rfl) | (simp [*, errW_none, errW_some] <;> rfl), wB⟩
 }
 {
 rw [if_neg c21] at H
 exact absurd H (by simp)
 }
 }
 {
 rw [if_neg c20] at H
 exact absurd H (by simp)
 }
 }
 {
 rw [if_neg c18] at H
 exact absurd H (by simp)
 }
 }
 {
 rw [if_neg c16] at H
 exact absurd H (by simp)
 }
 }
 {
 rw [if_neg c15] at H
 exact absurd H (by simp)
 }
 }
 {
 rw [if_neg c13] at H
 exact absurd H (by simp)
 }
 }
 {
 rw [if_neg c12] at H
 exact absurd H (by simp)
 }
 }
 {
 rw [if_neg c10] at H
 exact absurd H (by simp)
 }
 }
 {
 rw [if_neg c9] at H
 exact absurd H (by simp)
 }
 }
 {
 rw [if_neg c8] at H
 exact absurd H (by simp)
 }
 }
 {
 rw [if_neg c7] at H
 exact absurd H (by simp)
 }
 }
 {
 rw [if_neg c6] at H
 exact absurd H (by simp)
 }
 }
 {
 rw [if_neg c5] at H
 exact absurd H (by simp)
 }
 }
 }
 {
 rw [if_neg c3] at H
 have c3b0 : (t111 == 0) = false := beq_eq_false_iff_ne.mpr c3
 have c3b1 : (t111 != 0) = true := bne_iff_ne.mpr c3
 simp only [Option.some.injEq, Prod.mk.injEq] at H
 obtain ⟨rfl, rfl, rfl, rfl, rfl, rfl, rfl, rfl⟩ := H
 go_enter Try.func18, Try.ntmps18
 go_wp2_with (first | ((with_reducible refine gate_dst (N := 2) rfl ?_); refine box_event ?hg (N := 2) ?hd (cs := #[.int .i64 0, .int .i64 0, .int .i64 0, .int .i64 0, .int .i64 0, .int .i64 0, .int .i64 0]) (t := 38) ?hr ?_; (case hd => rfl); (case hg => rfl); (case hr => first | (go_simp; done) | (go_simp; rfl)); intro gb109 hg w1001 hbox hb; have n0_ := Aside0.mk (below_step wB hb); have n1_ := Aside0.mk (hbox); have n2_ := Aside0.mk ((by rw [hg]; exact (below_size wB) : w.heap.size ≤ gb109)); have n3_ := Aside0.mk ((by rw [hg]; exact (below_size wB) : w.heap.size ≤ gb109)); clear HB; have HB := n0_; have BK109 := n1_; have GW109 := n2_; have GE109 := n3_; clear n0_ n1_ n2_ n3_; clear hb hbox hg) | ((with_reducible refine gate_callee (f := 69) rfl ?_); refine goesL_ (some 9) rfl rfl Try.func69 (by kernel_rfl) rfl #[.slice A0 l0.length c0] rfl wT ?_; (with_reducible refine (spec_l05ReadHead.calls k _ _ l0 t110 t111 _ ?side1 ?side2 A2.out).mono ?_); (case side1 => exact Kd.C_below HR0.out wB); (case side2 => exact HC0.out); rintro e w' ⟨rfl, ⟨nd, rfl⟩⟩; refine ⟨_, rfl, ?_⟩; (try (rw [drewN_self w1001]; generalize hq_ : World.drewN w1001 _ = w1001; have n0_ := Aside0.mk (blk_at hq_ BK109.out); have n1_ := Aside0.mk (below_at hq_ HB.out); clear hq_ BK109 HB; have BK109 := n0_; have HB := n1_; clear n0_ n1_; (try (obtain ⟨⟨hcyBK109_0, hcyBK109_1, hcyBK109_2, hcyBK109_3, hcyBK109_4, hcyBK109_5, hcyBK109_6⟩, hfyBK109_0, hfyBK109_1, hfyBK109_2, hfyBK109_3, hfyBK109_4, hfyBK109_5, hfyBK109_6⟩ := cells7 BK109.out)))); obtain ⟨⟨hcz1002_0, hcz1002_1, hcz1002_2, hcz1002_3, hcz1002_4, hcz1002_5, hcz1002_6⟩, hfz1002_0, hfz1002_1, hfz1002_2, hfz1002_3, hfz1002_4, hfz1002_5, hfz1002_6⟩ := cells7 BK109.out) | ((with_reducible refine gate_store (t := 38) (p := 2) rfl ?_); (try (rw [drewN_self w1001]; generalize hq_ : World.drewN w1001 _ = w1001; have n0_ := Aside0.mk (blk_at hq_ BK109.out); have n1_ := Aside0.mk (below_at hq_ HB.out); clear hq_ BK109 HB; have BK109 := n0_; have HB := n1_; clear n0_ n1_; (try (obtain ⟨⟨hcyBK109_0, hcyBK109_1, hcyBK109_2, hcyBK109_3, hcyBK109_4, hcyBK109_5, hcyBK109_6⟩, hfyBK109_0, hfyBK109_1, hfyBK109_2, hfyBK109_3, hfyBK109_4, hfyBK109_5, hfyBK109_6⟩ := cells7 BK109.out)))); refine store_event (t := 38) (p := 2) (v := ?_) (w1 := (((((((w1001.setCell ⟨gb109, 0, none⟩ (.int .i64 0)).setCell ⟨gb109, 1, none⟩ (.int .i64 0)).setCell ⟨gb109, 2, none⟩ (.int .i64 0)).setCell ⟨gb109, 3, none⟩ (.int .i64 0)).setCell ⟨gb109, 4, none⟩ (.int .i64 0)).setCell ⟨gb109, 5, none⟩ (.int .i64 0)).setCell ⟨gb109, 6, none⟩ (.int .i64 0))) ?hg ?ho ?hn ?hr ?_; (case ho => rfl); (case hg => rfl); (case hn => rfl); (case hr => first | (go_simp; done) | (go_simp; rfl)); intro w1003 hw; have n0_ : Aside0 (w1003.heap[gb109]? = some (.cells #[.int .i64 0, .int .i64 0, .int .i64 0, .int .i64 0, .int .i64 0, .int .i64 0, .int .i64 0] 38 (0, 0))) := ⟨(by rw [hw]; exact (by (with_reducible repeat (first | refine blk_drewN ?_ _ | refine blk_drew ?_ | refine blk_alloc ?_ _)); refine blk_put (cs := #[.int .i64 0, .int .i64 0, .int .i64 0, .int .i64 0, .int .i64 0, .int .i64 0, .int .i64 0]) ?_ 6 _ rfl; (with_reducible repeat (first | refine blk_drewN ?_ _ | refine blk_drew ?_ | refine blk_alloc ?_ _)); refine blk_put (cs := #[.int .i64 0, .int .i64 0, .int .i64 0, .int .i64 0, .int .i64 0, .int .i64 0, .int .i64 0]) ?_ 5 _ rfl; (with_reducible repeat (first | refine blk_drewN ?_ _ | refine blk_drew ?_ | refine blk_alloc ?_ _)); refine blk_put (cs := #[.int .i64 0, .int .i64 0, .int .i64 0, .int .i64 0, .int .i64 0, .int .i64 0, .int .i64 0]) ?_ 4 _ rfl; (with_reducible repeat (first | refine blk_drewN ?_ _ | refine blk_drew ?_ | refine blk_alloc ?_ _)); refine blk_put (cs := #[.int .i64 0, .int .i64 0, .int .i64 0, .int .i64 0, .int .i64 0, .int .i64 0, .int .i64 0]) ?_ 3 _ rfl; (with_reducible repeat (first | refine blk_drewN ?_ _ | refine blk_drew ?_ | refine blk_alloc ?_ _)); refine blk_put (cs := #[.int .i64 0, .int .i64 0, .int .i64 0, .int .i64 0, .int .i64 0, .int .i64 0, .int .i64 0]) ?_ 2 _ rfl; (with_reducible repeat (first | refine blk_drewN ?_ _ | refine blk_drew ?_ | refine blk_alloc ?_ _)); refine blk_put (cs := #[.int .i64 0, .int .i64 0, .int .i64 0, .int .i64 0, .int .i64 0, .int .i64 0, .int .i64 0]) ?_ 1 _ rfl; (with_reducible repeat (first | refine blk_drewN ?_ _ | refine blk_drew ?_ | refine blk_alloc ?_ _)); refine blk_put (cs := #[.int .i64 0, .int .i64 0, .int .i64 0, .int .i64 0, .int .i64 0, .int .i64 0, .int .i64 0]) ?_ 0 _ rfl; (with_reducible repeat (first | refine blk_drewN ?_ _ | refine blk_drew ?_ | refine blk_alloc ?_ _)); exact BK109.out))⟩; have n1_ : Aside0 (Below w.heap.size w w1003) := ⟨(by rw [hw]; exact wB)⟩; clear hw; clear BK109; clear HB; have BK109 := n0_; have HB := n1_; clear n0_ n1_))
 refine bodyPost_ret (results_ct rfl _ _ gb109 38 #[.int .i64 0, .int .i64 0, .int .i64 0, .int .i64 0, .int .i64 0, .int .i64 0, .int .i64 0] (0, 0) _ rfl (Bh BK109) Try.underlying38 rfl (by kernel_rfl)) rfl ?_
 exact ⟨by first | rfl | (simp [errW_none, errW_some] <;> rfl) | (simp [*, errW_none, errW_some] <;> rfl), wB⟩
 }

/-! ### laws_toByteS: function 19 -/
def laws_toByteS.l0 : Nat → List Int → List Int → Int → Option (List Int)
  | 0, _, _, _ => none
  | k + 1, x0, x3, x4 => if x4 < (x0.length : Int) then (if 0 ≤ x4 then (if x4 < (x3.length : Int) then (laws_toByteS.l0 k x0 (x3.set (x4 : Int).toNat (rd x0 x4)) (wrap64 (x4 + 1))) else (none)) else (none)) else (some x3)
def laws_toByteS.f (k : Nat) (l0 : List Int) : Option (List Int) := if 0 ≤ (l0.length : Int) then (if ((l0.length : Int) : Int).toNat ≤ 281474976710656 then (laws_toByteS.l0 k l0 (List.replicate ((l0.length : Int) : Int).toNat 0) 0) else (none)) else (none)
theorem laws_toByteS.mono_l : ∀ k, (∀ y0 y1 y2, LeO (laws_toByteS.l0 k y0 y1 y2) (laws_toByteS.l0 (k + 1) y0 y1 y2))
  | 0 => fun _ _ _ r h => by simp [laws_toByteS.l0] at h
  | k + 1 => by
    have ih0 := laws_toByteS.mono_l k
    · intro y0 y1 y2
      unfold laws_toByteS.l0
      repeat' first
      | (with_reducible exact ih0 _ _ _)
      | (with_reducible exact LeO.refl _)
      | (with_reducible exact LeO.none _)
      | (with_reducible refine LeO.ite ?_ ?_)
      | (with_reducible refine LeO.bind ?_ (fun _ => ?_))
      | exact ih0 _ _ _
      | exact LeO.none _
      | refine LeO.ite ?_ ?_
      | refine LeO.bind ?_ (fun _ => ?_)
theorem laws_toByteS.mono : ∀ a0 k, LeO (laws_toByteS.f k a0) (laws_toByteS.f (k + 1) a0) := by
  intro a0 k
  have ih0 := laws_toByteS.mono_l k
  unfold laws_toByteS.f
  repeat' first
      | (with_reducible exact ih0 _ _ _)
      | (with_reducible exact LeO.refl _)
      | (with_reducible exact LeO.none _)
      | (with_reducible refine LeO.ite ?_ ?_)
      | (with_reducible refine LeO.bind ?_ (fun _ => ?_))
      | exact ih0 _ _ _
      | exact LeO.none _
      | refine LeO.ite ?_ ?_
      | refine LeO.bind ?_ (fun _ => ?_)
set_option maxHeartbeats 60000000 in
set_option maxRecDepth 100000 in
theorem laws_toByteS.calls (k : Nat) (A0 : Option Addr) (c0 : Nat) (l0 : List Int) (r : List Int) (w : World) (hr0 : Kd.C (Kd.int .u8) w A0 l0.length l0) (hc0 : l0.length ≤ c0) (h : laws_toByteS.f k l0 = some r) :
    Calls Try.prog 19 #[.slice A0 l0.length c0] w fun e w' => ∃ v0_ : Value, e = .returned (v0_) ∧ Kd.R (Kd.int .u8) 5 w' w.heap.size (fun _ => True) v0_ r ∧ Below w.heap.size w w' := by
  have HR0 := Aside0.mk hr0
  have HC0 := Aside0.mk hc0
  clear hr0 hc0
  have HB := Aside0.mk (Below.refl w.heap.size w)
  have H : (if 0 ≤ (l0.length : Int) then (if ((l0.length : Int) : Int).toNat ≤ 281474976710656 then (laws_toByteS.l0 k l0 (List.replicate ((l0.length : Int) : Int).toNat 0) 0) else (none)) else (none)) = some r := h
  clear h
  by_cases c2 : 0 ≤ (l0.length : Int)
  · rw [if_pos c2] at H
    have c2b0 := eq_true c2
    have c2b1 : decide (0 ≤ (l0.length : Int)) = true := decide_eq_true c2
    clear c2
    by_cases c3 : ((l0.length : Int) : Int).toNat ≤ 281474976710656
    · rw [if_pos c3] at H
      have c3b0 := eq_true c3
      have c3b1 : decide (((l0.length : Int) : Int).toNat ≤ 281474976710656) = true := decide_eq_true c3
      clear c3
      obtain ⟨y126, hy126⟩ : ∃ y_ : List Int, y_ = (List.replicate ((l0.length : Int) : Int).toNat 0) := ⟨_, rfl⟩
      replace H : (laws_toByteS.l0 k l0 y126 0) = some r := by first | (rw [hy126]; with_reducible exact H) | (have H2_ := (Option.bind_some _ _).symm.trans H; rw [hy126]; with_reducible exact H2_) | (have H2_ := (Option.bind_some _ _).symm.trans H; with_reducible exact H2_) | with_reducible exact H | (rw [hy126]; exact H) | exact H
      have Ny126 := Aside0.mk hy126
      clear hy126
      have H' := Aside0.mk H
      clear H
      go_enter Try.func19, Try.ntmps19
      go_wp2_with (first | ((with_reducible refine gate_dst (N := 7) rfl ?_); refine Kd.R_make (Kd.int .u8) _ 5 rfl (N := 7) rfl 22 _ _ rfl (l0.length : Int) rfl rfl Try.underlying22 (.int .u8 0) 1 info5 rfl (by decide) (by omega) 0 (ok := fun _ => True) (okp := fun _ => True) rfl (fun _ hk => hk) trivial (of_decide_eq_true (by first | (with_reducible assumption) | assumption)) (Nat.le_trans (Nat.mul_le_mul_right _ (of_decide_eq_true (by first | (with_reducible assumption) | assumption) : (l0.length : Int).toNat ≤ 281474976710656)) (by omega)) (Below.refl _ _) (Nat.le_refl _) ?_; intro v127 w1001 ho1002 hb hg_ hnew_; clear hg_ hnew_; (first | rw [← Ny126.out] at ho1002 | (simp only [Int.reduceToNat] at ho1002; rw [← Ny126.out] at ho1002)); have n0_ := Aside0.mk (Kd.R_lower ho1002 (below_size wB)); have n1_ := Aside0.mk (below_step wB hb); clear HB; have HO128 := n0_; have HB := n1_; clear n0_ n1_; clear hb ho1002))
      go_loopg [4] k (fun kq v4 w' => ∃ (x3_1 : List Int) (x4_1 : Int), v4 = .int .i64 x4_1 ∧ Aside0 (laws_toByteS.l0 kq l0 x3_1 x4_1 = some r) ∧ Aside0 (kq ≤ k) ∧ Aside0 (Kd.R (Kd.int .u8) 5 w' w.heap.size (fun _ => True) v127 x3_1) ∧ Aside0 (Below w.heap.size w w'))
      case atStart => exact ⟨(y126), (0), (by first | rfl | (simp; done) | (simp [*]; done)), H', ⟨Nat.le_refl _⟩, ⟨Rh HO128⟩, ⟨wB⟩⟩
      case round =>
        clear H'
        try clear c2
        try clear c2b0
        try clear c2b1
        try clear p2
        try clear c3
        try clear c3b0
        try clear c3b1
        obtain ⟨x3_1, x4_1, rfl, HA, HK1, HO_3, HB⟩ := hrel
        cases gk with
        | zero => exact absurd HA.out (by simp [laws_toByteS.l0])
        | succ k1 =>
          have H := HA.out
          clear HA
          simp only [laws_toByteS.l0] at H
          by_cases c1003 : x4_1 < (l0.length : Int)
          · rw [if_pos c1003] at H
            have c1003b0 : decide (x4_1 < (l0.length : Int)) = true := decide_eq_true c1003
            clear c1003
            by_cases c1004 : 0 ≤ x4_1
            · rw [if_pos c1004] at H
              have c1004b0 : decide (0 ≤ x4_1) = true := decide_eq_true c1004
              clear c1004
              by_cases c1005 : x4_1 < (x3_1.length : Int)
              · rw [if_pos c1005] at H
                have c1005b0 : decide (x4_1 < (x3_1.length : Int)) = true := decide_eq_true c1005
                clear c1005
                obtain ⟨y130, hy130⟩ : ∃ y_ : List Int, y_ = (x3_1.set (x4_1 : Int).toNat (rd l0 x4_1)) := ⟨_, rfl⟩
                replace H : (laws_toByteS.l0 k1 l0 y130 (wrap64 (x4_1 + 1))) = some r := by first | (rw [hy130]; with_reducible exact H) | (have H2_ := (Option.bind_some _ _).symm.trans H; rw [hy130]; with_reducible exact H2_) | (have H2_ := (Option.bind_some _ _).symm.trans H; with_reducible exact H2_) | with_reducible exact H | (rw [hy130]; exact H) | exact H
                have Ny130 := Aside0.mk hy130
                clear hy130
                have H' := Aside0.mk H
                clear H
                have p129 : 0 ≤ (x4_1 : Int) := of_decide_eq_true (by first | (with_reducible assumption) | assumption)
                have q129 : x4_1 < (l0.length : Int) := of_decide_eq_true (by first | (with_reducible assumption) | assumption)
                obtain ⟨ad129, e129, hx129_0⟩ := Kd.at_int HR0.out x4_1 p129 q129
                cases e129
                replace hx129_0 := (HB.out.cell (World.block_lt_of_cell? w _ hx129_0)).trans hx129_0
                replace p129 := eq_true p129
                replace q129 := eq_true q129
                have p1006 : 0 ≤ (x4_1 : Int) := of_decide_eq_true (by first | (with_reducible assumption) | assumption)
                have q1006 : (x4_1 : Int) < ((x3_1.length : Int) : Int) := of_decide_eq_true (by first | (with_reducible assumption) | assumption)
                obtain ⟨go1006, co1006, eo1006, gb1006, gl1006, cl1006, HG1006⟩ := Kd.R_form HO_3.out (by omega)
                (first | cases eo1006 | (injection eo1006 with ea_ en_ ec_; (first | subst ea_ | (injection ea_ with ea_; subst ea_)); subst ec_; clear en_))
                have GB1006 := Aside0.mk gb1006
                have GG1006 := Aside0.mk HG1006
                clear gb1006 gl1006 HG1006
                obtain ⟨hx1006_0, hf1006_0⟩ := Kd.R_celln 0 HO_3.out (x4_1 : Int) p1006 q1006
                replace p1006 := eq_true p1006
                replace q1006 := eq_true q1006
                have HP2001 := Kd.R_putg HO_3.out (x4_1 : Int) (rd l0 x4_1)
                go_wp2_with (first | ((with_reducible refine gate_store (t := 5) (p := 20) rfl ?_); refine store_event (t := 5) (p := 20) (v := ?_) (w1 := (wr.setCell ⟨go1006, (x4_1 : Int).toNat, none⟩ (.int .u8 (rd l0 x4_1)))) ?hg ?ho ?hn ?hr ?_; (case ho => rfl); (case hg => rfl); (case hn => rfl); (case hr => first | (go_simp; done) | (go_simp; rfl)); intro w2002 hw; have hg : wr.grownBy w2002 (some go1006) := (by rw [hw]; exact HP2001.2); have hp_ : Kd.R (Kd.int .u8) 5 w2002 w.heap.size (fun _ => True) (.slice (some ⟨go1006, 0, none⟩) x3_1.length co1006) y130 := (by rw [hw, Ny130.out]; exact HP2001.1); clear HP2001; have n0_ := Aside0.mk (hp_); have n1_ := Aside0.mk ((by rw [hw]; exact below_set (HB.out) GB1006.out : Below w.heap.size w w2002)); clear HO_3; clear HB; have HO_3 := n0_; have HB := n1_; clear n0_ n1_; clear hg hw hp_))
                go_roundg k1
                case measure => have := HK1.out; omega
                case rel => exact ⟨(y130), (wrap64 (x4_1 + 1)), (by first | rfl | (simp; done) | (simp [*]; done)), H', ⟨by have := HK1.out; omega⟩, ⟨Rh HO_3⟩, ⟨wB⟩⟩
              · rw [if_neg c1005] at H
                exact absurd H (by simp)
            · rw [if_neg c1004] at H
              exact absurd H (by simp)
          · rw [if_neg c1003] at H
            have c1003b0 : decide (x4_1 < (l0.length : Int)) = false := decide_eq_false c1003
            clear c1003
            obtain rfl := Option.some.inj H
            go_wp2
            go_ret
            exact ⟨_, by first | rfl | (simp [errW_none, errW_some] <;> rfl) | (simp [*, errW_none, errW_some] <;> rfl), by (with_reducible repeat (first | apply Kd.R_alloc | apply Kd.R_drewN | apply Kd.R_drew)); exact HO_3.out, wB⟩
    · rw [if_neg c3] at H
      exact absurd H (by simp)
  · rw [if_neg c2] at H
    exact absurd H (by simp)

/-! ### impl_carried: function 132 -/
def impl_carried.l0 : Nat → Int → Option (Int)
  | 0, _ => none
  | k + 1, x0 => if x0 > 65535 then (impl_carried.l0 k (IntKind.u64.wrap ((x0 / 65536) + (Go.bits .and .u64 x0 65535)))) else (some x0)
def impl_carried.f (k : Nat) (a0 : Int) : Option (Int) := impl_carried.l0 k a0
theorem impl_carried.mono_l : ∀ k, (∀ y0, LeO (impl_carried.l0 k y0) (impl_carried.l0 (k + 1) y0))
  | 0 => fun _ r h => by simp [impl_carried.l0] at h
  | k + 1 => by
    have ih0 := impl_carried.mono_l k
    · intro y0
      unfold impl_carried.l0
      repeat' first
      | (with_reducible exact ih0 _)
      | (with_reducible exact LeO.refl _)
      | (with_reducible exact LeO.none _)
      | (with_reducible refine LeO.ite ?_ ?_)
      | (with_reducible refine LeO.bind ?_ (fun _ => ?_))
      | exact ih0 _
      | exact LeO.none _
      | refine LeO.ite ?_ ?_
      | refine LeO.bind ?_ (fun _ => ?_)
theorem impl_carried.mono : ∀ a0 k, LeO (impl_carried.f k a0) (impl_carried.f (k + 1) a0) := by
  intro a0 k
  have ih0 := impl_carried.mono_l k
  unfold impl_carried.f
  repeat' first
      | (with_reducible exact ih0 _)
      | (with_reducible exact LeO.refl _)
      | (with_reducible exact LeO.none _)
      | (with_reducible refine LeO.ite ?_ ?_)
      | (with_reducible refine LeO.bind ?_ (fun _ => ?_))
      | exact ih0 _
      | exact LeO.none _
      | refine LeO.ite ?_ ?_
      | refine LeO.bind ?_ (fun _ => ?_)
set_option maxHeartbeats 60000000 in
set_option maxRecDepth 100000 in
theorem impl_carried.calls (k : Nat) (a0 : Int) (r : Int) (w : World) (h : impl_carried.f k a0 = some r) :
    Calls Try.prog 132 #[.int .u64 a0] w fun e w' => e = .returned (.int .u64 r) ∧ Drawn0 w w' := by
  have H : (impl_carried.l0 k a0) = some r := h
  clear h
  have H' := Aside0.mk H
  clear H
  go_enter Try.func132, Try.ntmps132
  go_wp2
  go_loopg [0] k (fun kq v0 w' => ∃ (x0_1 : Int), v0 = .int .u64 x0_1 ∧ Aside0 (impl_carried.l0 kq x0_1 = some r) ∧ Aside0 (kq ≤ k) ∧ Drawn0 w w')
  case atStart => exact ⟨(a0), (by first | rfl | (simp; done) | (simp [*]; done)), H', ⟨Nat.le_refl _⟩, by repeat (first | exact Drawn0.refl _ | apply Drawn0.step)⟩
  case round =>
    clear H'
    obtain ⟨x0_1, rfl, HA, HK1, ⟨m1, rfl⟩⟩ := hrel
    cases gk with
    | zero => exact absurd HA.out (by simp [impl_carried.l0])
    | succ k1 =>
      have H := HA.out
      clear HA
      simp only [impl_carried.l0] at H
      by_cases c1001 : x0_1 > 65535
      · rw [if_pos c1001] at H
        have c1001b0 : decide (65535 < x0_1) = true := decide_eq_true c1001
        clear c1001
        have H' := Aside0.mk H
        clear H
        go_wp2
        go_roundg k1
        case measure => have := HK1.out; omega
        case rel => exact ⟨(IntKind.u64.wrap ((x0_1 / 65536) + (Go.bits .and .u64 x0_1 65535))), (by first | rfl | (simp; done) | (simp [*]; done)), H', ⟨by have := HK1.out; omega⟩, by repeat (first | exact Drawn0.refl _ | apply Drawn0.step)⟩
      · rw [if_neg c1001] at H
        have c1001b0 : decide (65535 < x0_1) = false := decide_eq_false c1001
        clear c1001
        obtain rfl := Option.some.inj H
        go_wp2
        go_ret
        exact ⟨by first | rfl | (simp; done) | (simp [*]; done), by repeat (first | exact Drawn0.refl _ | apply Drawn0.step)⟩

end Go.Proofs.Ytkfbcmbemihbnaa.PFnExactReadQuote
