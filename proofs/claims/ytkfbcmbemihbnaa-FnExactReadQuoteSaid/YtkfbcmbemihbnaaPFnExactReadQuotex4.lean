-- Written for this claim by a program of this session (wip/mkprint.py: the print, turned at a few places). Not trusted: Lean checks it.
import Derived.Test.YtkfbcmbemihbnaaPFnExactReadQuotex0
import Derived.Test.YtkfbcmbemihbnaaPFnExactReadQuotex3
namespace Go.Proofs.Ytkfbcmbemihbnaa.PFnExactReadQuote
open Go.RowKit Go.Proofs.YtkfbcmbemihbnaaW.PrintWords Go.Proofs.YtkfbcmbemihbnaaW.PrintLast Go.Proofs.YtkfbcmbemihbnaaW.PrintMore
attribute [local go_sem] max2_int min2_int max_two min_two max_three min_three max_four min_four   -- for this text's walks alone
set_option linter.unusedVariables false
set_option linter.unusedSimpArgs false

/-! ### impl_ReadQuote: function 20 -/
def impl_ReadQuote.j0 : Nat → List Int → Int → Bool → Option (Int × Int × Int × Int × Int × Int × Int × Int)
  | 0, _, _, _ => none
  | k + 1, x0, x4, x29 => if x29 = true then (some (0, 0, 0, 0, 0, 0, 0, 5)) else (if 0 ≤ x4 then (if x4 ≤ (x0.length : Int) then ((impl_Checksum.f k (x0.take (x4 : Int).toNat)).bind fun t138 => (if t138 = 0 then (if ((x0.drop (x4 : Int).toNat).length : Int) < 8 then (some (0, 0, 0, 0, 0, 0, 0, 2)) else (if 9 < (x0.length : Int) then (if 12 ≤ 16 then (if 16 ≤ (x0.length : Int) then ((impl_get.f k ((x0.take 16).drop 12)).bind fun t142 => (if 16 ≤ 20 then (if 20 ≤ (x0.length : Int) then ((impl_get.f k ((x0.take 20).drop 16)).bind fun t144 => (if 4 ≤ 6 then (if 6 ≤ (x0.length : Int) then ((impl_get.f k ((x0.take 6).drop 4)).bind fun t146 => (if 2 ≤ ((x0.drop (x4 : Int).toNat).length : Int) then ((impl_get.f k ((x0.drop (x4 : Int).toNat).take 2)).bind fun t148 => (if 2 ≤ 4 then (if 4 ≤ ((x0.drop (x4 : Int).toNat).length : Int) then ((impl_get.f k (((x0.drop (x4 : Int).toNat).take 4).drop 2)).bind fun t150 => (if 4 ≤ 8 then (if 8 ≤ ((x0.drop (x4 : Int).toNat).length : Int) then ((impl_get.f k (((x0.drop (x4 : Int).toNat).take 8).drop 4)).bind fun t152 => (some (wrap64 (rd x0 9), t142, t144, t146, t148, t150, t152, 0))) else (none)) else (none))) else (none)) else (none))) else (none))) else (none)) else (none))) else (none)) else (none))) else (none)) else (none)) else (none))) else (some (0, 0, 0, 0, 0, 0, 0, 3)))) else (none)) else (none))
def impl_ReadQuote.f (k : Nat) (l0 : List Int) : Option (Int × Int × Int × Int × Int × Int × Int × Int) := if (l0.length : Int) < 20 then (some (0, 0, 0, 0, 0, 0, 0, 2)) else (if 0 < (l0.length : Int) then (if ((rd l0 0) / 16) = 4 then (if (wrap64 ((wrap64 (Go.bits .and .u8 (rd l0 0) 15)) * 4)) < 20 then (impl_ReadQuote.j0 k l0 (wrap64 ((wrap64 (Go.bits .and .u8 (rd l0 0) 15)) * 4)) true) else (impl_ReadQuote.j0 k l0 (wrap64 ((wrap64 (Go.bits .and .u8 (rd l0 0) 15)) * 4)) (decide ((wrap64 ((wrap64 (Go.bits .and .u8 (rd l0 0) 15)) * 4)) > (l0.length : Int))))) else (some (0, 0, 0, 0, 0, 0, 0, 4))) else (none))
theorem impl_ReadQuote.mono_l : ∀ k, (∀ y0 y1 y2, LeO (impl_ReadQuote.j0 k y0 y1 y2) (impl_ReadQuote.j0 (k + 1) y0 y1 y2))
  | 0 => fun _ _ _ r h => by simp [impl_ReadQuote.j0] at h
  | k + 1 => by
    have ih0 := impl_ReadQuote.mono_l k
    · intro y0 y1 y2
      unfold impl_ReadQuote.j0
      repeat' first
      | (with_reducible exact ih0 _ _ _)
      | (with_reducible exact impl_Checksum.mono _ _)
      | (with_reducible exact impl_get.mono _ _)
      | (with_reducible exact LeO.refl _)
      | (with_reducible exact LeO.none _)
      | (with_reducible refine LeO.ite ?_ ?_)
      | (with_reducible refine LeO.bind ?_ (fun _ => ?_))
      | exact ih0 _ _ _
      | exact impl_Checksum.mono _ _
      | exact impl_get.mono _ _
      | exact LeO.none _
      | refine LeO.ite ?_ ?_
      | refine LeO.bind ?_ (fun _ => ?_)
theorem impl_ReadQuote.mono : ∀ a0 k, LeO (impl_ReadQuote.f k a0) (impl_ReadQuote.f (k + 1) a0) := by
 intro a0 k
 have ih0 := impl_ReadQuote.mono_l k
 unfold impl_ReadQuote.f
 repeat' first
     | (with_reducible exact ih0 _ _ _)
     | (with_reducible exact impl_Checksum.mono _ _)
     | (with_reducible exact impl_get.mono _ _)
     | (with_reducible exact LeO.refl _)
     | (with_reducible exact LeO.none _)
     | (with_reducible refine LeO.ite ?_ ?_)
     | (with_reducible refine LeO.bind ?_ (fun _ => ?_))
     | exact ih0 _ _ _
     | exact impl_Checksum.mono _ _
     | exact impl_get.mono _ _
     | exact LeO.none _
     | refine LeO.ite ?_ ?_
     | refine LeO.bind ?_ (fun _ => ?_)
def impl_ReadQuote.T13 : Bool × List (List Nat × List Nat) := (true, [([], []), ([0], [0]), ([1], [1]), ([2], [2]), ([], []), ([4], [4]), ([5], [5]), ([], []), ([7], [7]), ([8, 6], [8]), ([], []), ([10], [10]), ([11, 9], [11]), ([], []), ([13], [13]), ([14, 12], [14]), ([], []), ([16], [16]), ([17, 15], [17]), ([], []), ([19], [19]), ([20, 18], [20]), ([3, 6, 9, 12, 15, 18, 21], [3, 6, 9, 12, 15, 18, 21]), ([22, 21, 0, 1, 2, 3, 4, 5, 6, 7, 8, 9, 10, 11, 12, 13, 14, 15, 16, 17, 18, 19, 20, 21, 22], [22]), ([23, 0, 1, 2, 3, 4, 5, 6, 7, 8, 9, 10, 11, 12, 13, 14, 15, 16, 17, 18, 19, 20, 21, 22, 23], [])])
def impl_ReadQuote.B13 : List Nat := [0, 1, 3, 7, 0, 16, 48, 0, 128, 496, 0, 1024, 4080, 0, 8192, 32752, 0, 65536, 262128, 0, 524288, 2097136, 4194303, 8388607, 16777215]
theorem impl_ReadQuote.tab13 : rtab .any (opsOf Try.f20 13) = impl_ReadQuote.T13 := by kernel_rfl
theorem impl_ReadQuote.bits13 : waitsOk impl_ReadQuote.T13.2 impl_ReadQuote.B13 = true := by kernel_rfl
set_option maxHeartbeats 60000000 in
set_option maxRecDepth 100000 in
theorem impl_ReadQuote.calls (k : Nat) (A0 : Option Addr) (c0 : Nat) (l0 : List Int) (r1 : Int) (r2 : Int) (r3 : Int) (r4 : Int) (r5 : Int) (r6 : Int) (r7 : Int) (r8 : Int) (w : World) (hr0 : Kd.C (Kd.int .u8) w A0 l0.length l0) (hc0 : l0.length ≤ c0) (h : impl_ReadQuote.f k l0 = some (r1, r2, r3, r4, r5, r6, r7, r8)) :
 Calls Try.prog 20 #[.slice A0 l0.length c0] w fun e w' => e = .returned (.tuple #[.agg #[.int .i64 r1, .int .i64 r2, .int .i64 r3, .int .i64 r4, .int .i64 r5, .int .i64 r6, .int .i64 r7], .int .i64 r8]) ∧ Below w.heap.size w w' := by
 have hu38 := Try.underlying38
 have HR0 := Aside0.mk hr0
 have HC0 := Aside0.mk hc0
 clear hr0 hc0
 have HB := Aside0.mk (Below.refl w.heap.size w)
 have H : (if (l0.length : Int) < 20 then (some (0, 0, 0, 0, 0, 0, 0, 2)) else (if 0 < (l0.length : Int) then (if ((rd l0 0) / 16) = 4 then (if (wrap64 ((wrap64 (Go.bits .and .u8 (rd l0 0) 15)) * 4)) < 20 then (impl_ReadQuote.j0 k l0 (wrap64 ((wrap64 (Go.bits .and .u8 (rd l0 0) 15)) * 4)) true) else (impl_ReadQuote.j0 k l0 (wrap64 ((wrap64 (Go.bits .and .u8 (rd l0 0) 15)) * 4)) (decide ((wrap64 ((wrap64 (Go.bits .and .u8 (rd l0 0) 15)) * 4)) > (l0.length : Int))))) else (some (0, 0, 0, 0, 0, 0, 0, 4))) else (none))) = some (r1, r2, r3, r4, r5, r6, r7, r8) := h
 clear h
 by_cases c2 : (l0.length : Int) < 20
 {
 rw [if_pos c2] at H
 have c2b0 : decide ((l0.length : Int) < 20) = true := decide_eq_true c2
 have c2b1 : decide (l0.length < 20) = true := decide_eq_true (by omega)
 clear c2
 simp only [Option.some.injEq, Prod.mk.injEq] at H
 obtain ⟨rfl, rfl, rfl, rfl, rfl, rfl, rfl, rfl⟩ := H
 go_enter Try.func20, Try.ntmps20
 go_wp2_with (first | ((with_reducible refine gate_dst (N := 2) rfl ?_); (try (refine gate_guard (by rfl) ?_; dsimp only)); refine box_event ?hg (N := 2) ?hd (cs := #[.int .i64 0, .int .i64 0, .int .i64 0, .int .i64 0, .int .i64 0, .int .i64 0, .int .i64 0]) (t := 38) ?hr ?_; (case hd => rfl); (case hg => rfl); (case hr => first | (go_simp; done) | (go_simp; rfl)); intro gb134 hg w1001 hbox hb; have n0_ := Aside0.mk (below_step wB hb); have n1_ := Aside0.mk (hbox); have n2_ := Aside0.mk ((by rw [hg]; exact (below_size wB) : w.heap.size ≤ gb134)); have n3_ := Aside0.mk ((by rw [hg]; exact (below_size wB) : w.heap.size ≤ gb134)); clear HB; have HB := n0_; have BK134 := n1_; have GW134 := n2_; have GE134 := n3_; clear n0_ n1_ n2_ n3_; clear hb hbox hg; obtain ⟨⟨hcz1002_0, hcz1002_1, hcz1002_2, hcz1002_3, hcz1002_4, hcz1002_5, hcz1002_6⟩, hfz1002_0, hfz1002_1, hfz1002_2, hfz1002_3, hfz1002_4, hfz1002_5, hfz1002_6⟩ := cells7 BK134.out) | ((with_reducible refine gate_store (t := 38) (p := 2) rfl ?_); (try (rw [drewN_self w1001]; generalize hq_ : World.drewN w1001 _ = w1001; have n0_ := Aside0.mk (blk_at hq_ BK134.out); have n1_ := Aside0.mk (below_at hq_ HB.out); clear hq_ BK134 HB; have BK134 := n0_; have HB := n1_; clear n0_ n1_; (try (obtain ⟨⟨hcyBK134_0, hcyBK134_1, hcyBK134_2, hcyBK134_3, hcyBK134_4, hcyBK134_5, hcyBK134_6⟩, hfyBK134_0, hfyBK134_1, hfyBK134_2, hfyBK134_3, hfyBK134_4, hfyBK134_5, hfyBK134_6⟩ := cells7 BK134.out)))); refine store_event (t := 38) (p := 2) (v := ?_) (w1 := (((((((w1001.setCell ⟨gb134, 0, none⟩ (.int .i64 0)).setCell ⟨gb134, 1, none⟩ (.int .i64 0)).setCell ⟨gb134, 2, none⟩ (.int .i64 0)).setCell ⟨gb134, 3, none⟩ (.int .i64 0)).setCell ⟨gb134, 4, none⟩ (.int .i64 0)).setCell ⟨gb134, 5, none⟩ (.int .i64 0)).setCell ⟨gb134, 6, none⟩ (.int .i64 0))) ?hg ?ho ?hn ?hr ?_; (case ho => rfl); (case hg => rfl); (case hn => rfl); (case hr => first | (go_simp; done) | (go_simp; rfl)); intro w1003 hw; have n0_ : Aside0 (w1003.heap[gb134]? = some (.cells #[.int .i64 0, .int .i64 0, .int .i64 0, .int .i64 0, .int .i64 0, .int .i64 0, .int .i64 0] 38 (0, 0))) := ⟨(by rw [hw]; exact (by (with_reducible repeat (first | refine blk_drewN ?_ _ | refine blk_drew ?_ | refine blk_alloc ?_ _)); refine blk_put (cs := #[.int .i64 0, .int .i64 0, .int .i64 0, .int .i64 0, .int .i64 0, .int .i64 0, .int .i64 0]) ?_ 6 _ rfl; (with_reducible repeat (first | refine blk_drewN ?_ _ | refine blk_drew ?_ | refine blk_alloc ?_ _)); refine blk_put (cs := #[.int .i64 0, .int .i64 0, .int .i64 0, .int .i64 0, .int .i64 0, .int .i64 0, .int .i64 0]) ?_ 5 _ rfl; (with_reducible repeat (first | refine blk_drewN ?_ _ | refine blk_drew ?_ | refine blk_alloc ?_ _)); refine blk_put (cs := #[.int .i64 0, .int .i64 0, .int .i64 0, .int .i64 0, .int .i64 0, .int .i64 0, .int .i64 0]) ?_ 4 _ rfl; (with_reducible repeat (first | refine blk_drewN ?_ _ | refine blk_drew ?_ | refine blk_alloc ?_ _)); refine blk_put (cs := #[.int .i64 0, .int .i64 0, .int .i64 0, .int .i64 0, .int .i64 0, .int .i64 0, .int .i64 0]) ?_ 3 _ rfl; (with_reducible repeat (first | refine blk_drewN ?_ _ | refine blk_drew ?_ | refine blk_alloc ?_ _)); refine blk_put (cs := #[.int .i64 0, .int .i64 0, .int .i64 0, .int .i64 0, .int .i64 0, .int .i64 0, .int .i64 0]) ?_ 2 _ rfl; (with_reducible repeat (first | refine blk_drewN ?_ _ | refine blk_drew ?_ | refine blk_alloc ?_ _)); refine blk_put (cs := #[.int .i64 0, .int .i64 0, .int .i64 0, .int .i64 0, .int .i64 0, .int .i64 0, .int .i64 0]) ?_ 1 _ rfl; (with_reducible repeat (first | refine blk_drewN ?_ _ | refine blk_drew ?_ | refine blk_alloc ?_ _)); refine blk_put (cs := #[.int .i64 0, .int .i64 0, .int .i64 0, .int .i64 0, .int .i64 0, .int .i64 0, .int .i64 0]) ?_ 0 _ rfl; (with_reducible repeat (first | refine blk_drewN ?_ _ | refine blk_drew ?_ | refine blk_alloc ?_ _)); exact BK134.out))⟩; have n1_ : Aside0 (Below w.heap.size w w1003) := ⟨(by rw [hw]; exact wB)⟩; clear hw; clear BK134; clear HB; have BK134 := n0_; have HB := n1_; clear n0_ n1_))
 refine bodyPost_ret (results_ct rfl _ _ gb134 38 #[.int .i64 0, .int .i64 0, .int .i64 0, .int .i64 0, .int .i64 0, .int .i64 0, .int .i64 0] (0, 0) _ rfl (Bh BK134) Try.underlying38 rfl (by kernel_rfl)) rfl ?_
 exact ⟨by first | rfl | (simp [errW_none, errW_some] <;> rfl) | (simp [*, errW_none, errW_some] <;> rfl), wB⟩
 }
 {
 rw [if_neg c2] at H
 have c2b0 : decide ((l0.length : Int) < 20) = false := decide_eq_false c2
 have c2b1 : decide (l0.length < 20) = false := decide_eq_false (by omega)
 clear c2
 by_cases c3 : 0 < (l0.length : Int)
 {
 rw [if_pos c3] at H
 have c3b0 : decide (0 < (l0.length : Int)) = true := decide_eq_true c3
 have c3b1 : decide (0 < l0.length) = true := decide_eq_true (by omega)
 clear c3
 by_cases c4 : ((rd l0 0) / 16) = 4
 {
 rw [if_pos c4] at H
 have c4b0 : (((rd l0 0) / 16) == 4) = true := beq_iff_eq.mpr c4
 have c4b1 : (((rd l0 0) / 16) != 4) = false := bne_eq_false_iff_eq.mpr c4
 clear c4
 have HC5 := Aside0.mk H
 clear H
 go_enter Try.func20, Try.ntmps20
 go_upto_region 6 with (first | ((with_reducible refine gate_dst (N := 2) rfl ?_); (try (refine gate_guard (by rfl) ?_; dsimp only)); refine box_event ?hg (N := 2) ?hd (cs := #[.int .i64 0, .int .i64 0, .int .i64 0, .int .i64 0, .int .i64 0, .int .i64 0, .int .i64 0]) (t := 38) ?hr ?_; (case hd => rfl); (case hg => rfl); (case hr => first | (go_simp; done) | (go_simp; rfl)); intro gb134 hg w1001 hbox hb; have n0_ := Aside0.mk (below_step wB hb); have n1_ := Aside0.mk (hbox); have n2_ := Aside0.mk ((by rw [hg]; exact (below_size wB) : w.heap.size ≤ gb134)); have n3_ := Aside0.mk ((by rw [hg]; exact (below_size wB) : w.heap.size ≤ gb134)); clear HB; have HB := n0_; have BK134 := n1_; have GW134 := n2_; have GE134 := n3_; clear n0_ n1_ n2_ n3_; clear hb hbox hg; have p135 : 0 ≤ (0 : Int) := (by omega); have q135 : 0 < (l0.length : Int) := of_decide_eq_true (by first | (with_reducible assumption) | assumption); obtain ⟨ad135, e135, hx135_0⟩ := Kd.at_int HR0.out 0 p135 q135; cases e135; have qi135 : (0 < l0.length) = True := eq_true (by omega); (try rw [show ((0 : Int)).toNat = 0 from rfl] at hx135_0); (try rw [Addr.add_zero'] at hx135_0); replace hx135_0 := (HB.out.cell (World.block_lt_of_cell? w _ hx135_0)).trans hx135_0; replace p135 := eq_true p135; replace q135 := eq_true q135; have p136 : 0 ≤ (0 : Int) := (by omega); have q136 : 0 < (l0.length : Int) := of_decide_eq_true (by first | (with_reducible assumption) | assumption); obtain ⟨ad136, e136, hx136_0⟩ := Kd.at_int HR0.out 0 p136 q136; obtain rfl : ad135 = ad136 := (by injection e136); have qi136 : (0 < l0.length) = True := eq_true (by omega); (try rw [show ((0 : Int)).toNat = 0 from rfl] at hx136_0); (try rw [Addr.add_zero'] at hx136_0); replace hx136_0 := (HB.out.cell (World.block_lt_of_cell? w _ hx136_0)).trans hx136_0; replace p136 := eq_true p136; replace q136 := eq_true q136))
 (try simp only [Act.put, List.setIfInBounds_toArray, List.set_cons_zero, List.set_cons_succ])
 go_cut [29] (fun v29 wc => ∃ (kq : Nat) (x29_4 : Bool), v29 = .bool x29_4 ∧ Aside0 (impl_ReadQuote.j0 kq l0 (wrap64 ((wrap64 (Go.bits .and .u8 (rd l0 0) 15)) * 4)) x29_4 = some (r1, r2, r3, r4, r5, r6, r7, r8)) ∧ Aside0 (kq ≤ k) ∧ Aside0 (wc.heap[gb134]? = some (.cells #[.int .i64 0, .int .i64 0, .int .i64 0, .int .i64 0, .int .i64 0, .int .i64 0, .int .i64 0] 38 (0, 0))) ∧ Aside0 (Below w.heap.size w wc))
 case first => (
 have H := HC5.out
 clear HC5
 by_cases c1002 : (wrap64 ((wrap64 (Go.bits .and .u8 (rd l0 0) 15)) * 4)) < 20
 {
 rw [if_pos c1002] at H
 have c1002b0 : decide ((wrap64 ((wrap64 (Go.bits .and .u8 (rd l0 0) 15)) * 4)) < 20) = true := decide_eq_true c1002
 clear c1002
 (first | rw [c1002b0] | (simp only [i64_w, i32_w]; rw [c1002b0]) | skip)
 have H' := Aside0.mk H
 clear H
 go_wp2
 go_meet
 case rel => exact ⟨_, (true), (by first | rfl | (simp; done) | (simp [*]; done)), H', ⟨by first | omega | exact Nat.le_refl _⟩, ⟨Bh BK134⟩, ⟨wB⟩⟩
 }
 {
 rw [if_neg c1002] at H
 have c1002b0 : decide ((wrap64 ((wrap64 (Go.bits .and .u8 (rd l0 0) 15)) * 4)) < 20) = false := decide_eq_false c1002
 clear c1002
 (first | rw [c1002b0] | (simp only [i64_w, i32_w]; rw [c1002b0]) | skip)
 have H' := Aside0.mk H
 clear H
 go_wp2
 go_meet
 case rel => exact ⟨_, (decide ((wrap64 ((wrap64 (Go.bits .and .u8 (rd l0 0) 15)) * 4)) > (l0.length : Int))), (by first | rfl | (simp; done) | (simp [*]; done)), H', ⟨by first | omega | exact Nat.le_refl _⟩, ⟨Bh BK134⟩, ⟨wB⟩⟩
 }
 )
 case rest => (
 clear HC5
 try clear c2
 try clear c2b0
 try clear c2b1
 try clear p2
 try clear c3
 try clear c3b0
 try clear c3b1
 try clear c4
 try clear c4b0
 try clear c4b1
 try clear p135
 try clear q135
 try clear hx135
 try clear qi135
 try clear p136
 try clear q136
 try clear hx136
 try clear qi136
 try clear c1002
 try clear c1002b0
 try clear hcz1002_0 hcz1002_1 hcz1002_2 hcz1002_3 hcz1002_4 hcz1002_5 hcz1002_6 hfz1002_0 hfz1002_1 hfz1002_2 hfz1002_3 hfz1002_4 hfz1002_5 hfz1002_6
 try clear hx135_0
 try clear hx136_0
 try clear p135
 try clear p136
 try clear q135
 try clear q136
 obtain ⟨kq, x29_4, rfl, HA, HJ4, BK134, HB⟩ := hcut
 cases kq with
 | zero => exact absurd HA.out (by simp [impl_ReadQuote.j0])
 | succ kj4 => {
 have H := HA.out
 clear HA
 simp only [impl_ReadQuote.j0] at H
 by_cases c1003 : x29_4 = true
 subst c1003
 have H1 : (some (0, 0, 0, 0, 0, 0, 0, 5)) = some (r1, r2, r3, r4, r5, r6, r7, r8) := by rw [if_pos rfl] at H; exact H
 clear H
 have H := H1
 clear H1
 simp only [Option.some.injEq, Prod.mk.injEq] at H
 obtain ⟨rfl, rfl, rfl, rfl, rfl, rfl, rfl, rfl⟩ := H
 rotate_left
 replace c1003 := Bool.eq_false_iff.mpr c1003
 subst c1003
 have H1 : (if 0 ≤ (wrap64 ((wrap64 (Go.bits .and .u8 (rd l0 0) 15)) * 4)) then (if (wrap64 ((wrap64 (Go.bits .and .u8 (rd l0 0) 15)) * 4)) ≤ (l0.length : Int) then ((impl_Checksum.f kj4 (l0.take ((wrap64 ((wrap64 (Go.bits .and .u8 (rd l0 0) 15)) * 4)) : Int).toNat)).bind fun t138 => (if t138 = 0 then (if ((l0.drop ((wrap64 ((wrap64 (Go.bits .and .u8 (rd l0 0) 15)) * 4)) : Int).toNat).length : Int) < 8 then (some (0, 0, 0, 0, 0, 0, 0, 2)) else (if 9 < (l0.length : Int) then (if 12 ≤ 16 then (if 16 ≤ (l0.length : Int) then ((impl_get.f kj4 ((l0.take 16).drop 12)).bind fun t142 => (if 16 ≤ 20 then (if 20 ≤ (l0.length : Int) then ((impl_get.f kj4 ((l0.take 20).drop 16)).bind fun t144 => (if 4 ≤ 6 then (if 6 ≤ (l0.length : Int) then ((impl_get.f kj4 ((l0.take 6).drop 4)).bind fun t146 => (if 2 ≤ ((l0.drop ((wrap64 ((wrap64 (Go.bits .and .u8 (rd l0 0) 15)) * 4)) : Int).toNat).length : Int) then ((impl_get.f kj4 ((l0.drop ((wrap64 ((wrap64 (Go.bits .and .u8 (rd l0 0) 15)) * 4)) : Int).toNat).take 2)).bind fun t148 => (if 2 ≤ 4 then (if 4 ≤ ((l0.drop ((wrap64 ((wrap64 (Go.bits .and .u8 (rd l0 0) 15)) * 4)) : Int).toNat).length : Int) then ((impl_get.f kj4 (((l0.drop ((wrap64 ((wrap64 (Go.bits .and .u8 (rd l0 0) 15)) * 4)) : Int).toNat).take 4).drop 2)).bind fun t150 => (if 4 ≤ 8 then (if 8 ≤ ((l0.drop ((wrap64 ((wrap64 (Go.bits .and .u8 (rd l0 0) 15)) * 4)) : Int).toNat).length : Int) then ((impl_get.f kj4 (((l0.drop ((wrap64 ((wrap64 (Go.bits .and .u8 (rd l0 0) 15)) * 4)) : Int).toNat).take 8).drop 4)).bind fun t152 => (some (wrap64 (rd l0 9), t142, t144, t146, t148, t150, t152, 0))) else (none)) else (none))) else (none)) else (none))) else (none))) else (none)) else (none))) else (none)) else (none))) else (none)) else (none)) else (none))) else (some (0, 0, 0, 0, 0, 0, 0, 3)))) else (none)) else (none)) = some (r1, r2, r3, r4, r5, r6, r7, r8) := by rw [if_neg (show ¬ (false = true) by decide)] at H; exact H
 clear H
 have H := H1
 clear H1
 obtain ⟨ji1004, hji1004⟩ : ∃ j_ : Int, (wrap64 ((wrap64 (Go.bits .and .u8 (rd l0 0) 15)) * 4)) = j_ := ⟨_, rfl⟩
 replace H : (if 0 ≤ (ji1004) then (if (ji1004) ≤ (l0.length : Int) then ((impl_Checksum.f kj4 (l0.take ((ji1004) : Int).toNat)).bind fun t138 => (if t138 = 0 then (if ((l0.drop ((ji1004) : Int).toNat).length : Int) < 8 then (some (0, 0, 0, 0, 0, 0, 0, 2)) else (if 9 < (l0.length : Int) then (if 12 ≤ 16 then (if 16 ≤ (l0.length : Int) then ((impl_get.f kj4 ((l0.take 16).drop 12)).bind fun t142 => (if 16 ≤ 20 then (if 20 ≤ (l0.length : Int) then ((impl_get.f kj4 ((l0.take 20).drop 16)).bind fun t144 => (if 4 ≤ 6 then (if 6 ≤ (l0.length : Int) then ((impl_get.f kj4 ((l0.take 6).drop 4)).bind fun t146 => (if 2 ≤ ((l0.drop ((ji1004) : Int).toNat).length : Int) then ((impl_get.f kj4 ((l0.drop ((ji1004) : Int).toNat).take 2)).bind fun t148 => (if 2 ≤ 4 then (if 4 ≤ ((l0.drop ((ji1004) : Int).toNat).length : Int) then ((impl_get.f kj4 (((l0.drop ((ji1004) : Int).toNat).take 4).drop 2)).bind fun t150 => (if 4 ≤ 8 then (if 8 ≤ ((l0.drop ((ji1004) : Int).toNat).length : Int) then ((impl_get.f kj4 (((l0.drop ((ji1004) : Int).toNat).take 8).drop 4)).bind fun t152 => (some (wrap64 (rd l0 9), t142, t144, t146, t148, t150, t152, 0))) else (none)) else (none))) else (none)) else (none))) else (none))) else (none)) else (none))) else (none)) else (none))) else (none)) else (none)) else (none))) else (some (0, 0, 0, 0, 0, 0, 0, 3)))) else (none)) else (none)) = some (r1, r2, r3, r4, r5, r6, r7, r8) := by first | (rw [hji1004] at H; exact H) | (simp only [hji1004] at H ⊢; exact H)
 have hji1004w : (IntKind.i64.wrap ((wrap64 (Go.bits .and .u8 (rd l0 0) 15)) * 4)) = ji1004 := (i64_w _).trans hji1004
 by_cases c1005 : 0 ≤ (ji1004)
 rw [if_pos c1005] at H
 have c1005b0 := eq_true c1005
 have c1005b1 : decide (0 ≤ (ji1004)) = true := decide_eq_true c1005
 clear c1005
 by_cases c1006 : (ji1004) ≤ (l0.length : Int)
 rw [if_pos c1006] at H
 have c1006b0 := eq_true c1006
 have c1006b1 : decide ((ji1004) ≤ (l0.length : Int)) = true := decide_eq_true c1006
 clear c1006
 replace H := Option.bind_eq_some_iff.mp H
 obtain ⟨t138, A10070, H⟩ := H
 replace H : (if t138 = 0 then (if ((l0.drop ((ji1004) : Int).toNat).length : Int) < 8 then (some (0, 0, 0, 0, 0, 0, 0, 2)) else (if 9 < (l0.length : Int) then (if 12 ≤ 16 then (if 16 ≤ (l0.length : Int) then ((impl_get.f kj4 ((l0.take 16).drop 12)).bind fun t142 => (if 16 ≤ 20 then (if 20 ≤ (l0.length : Int) then ((impl_get.f kj4 ((l0.take 20).drop 16)).bind fun t144 => (if 4 ≤ 6 then (if 6 ≤ (l0.length : Int) then ((impl_get.f kj4 ((l0.take 6).drop 4)).bind fun t146 => (if 2 ≤ ((l0.drop ((ji1004) : Int).toNat).length : Int) then ((impl_get.f kj4 ((l0.drop ((ji1004) : Int).toNat).take 2)).bind fun t148 => (if 2 ≤ 4 then (if 4 ≤ ((l0.drop ((ji1004) : Int).toNat).length : Int) then ((impl_get.f kj4 (((l0.drop ((ji1004) : Int).toNat).take 4).drop 2)).bind fun t150 => (if 4 ≤ 8 then (if 8 ≤ ((l0.drop ((ji1004) : Int).toNat).length : Int) then ((impl_get.f kj4 (((l0.drop ((ji1004) : Int).toNat).take 8).drop 4)).bind fun t152 => (some (wrap64 (rd l0 9), t142, t144, t146, t148, t150, t152, 0))) else (none)) else (none))) else (none)) else (none))) else (none))) else (none)) else (none))) else (none)) else (none))) else (none)) else (none)) else (none))) else (some (0, 0, 0, 0, 0, 0, 0, 3))) = some (r1, r2, r3, r4, r5, r6, r7, r8) := H
 have A1007 := Aside0.mk A10070
 clear A10070
 by_cases c1008 : t138 = 0
 rw [if_pos c1008] at H
 have c1008b0 : (t138 == 0) = true := beq_iff_eq.mpr c1008
 have c1008b1 : (t138 != 0) = false := bne_eq_false_iff_eq.mpr c1008
 clear c1008
 have c1009b0 := eq_true (of_decide_eq_true (by first | (with_reducible assumption) | assumption) : 0 ≤ (ji1004))
 have c1010b0 := eq_true (of_decide_eq_true (by first | (with_reducible assumption) | assumption) : (ji1004) ≤ (l0.length : Int))
 by_cases c1011 : ((l0.drop ((ji1004) : Int).toNat).length : Int) < 8
 rw [if_pos c1011] at H
 have c1011b0 : decide (((l0.drop ((ji1004) : Int).toNat).length : Int) < 8) = true := decide_eq_true c1011
 have c1011b1 : decide ((l0.drop ((ji1004) : Int).toNat).length < 8) = true := decide_eq_true (by omega)
 (try (have c1011b8 := c1011b0; simp only [List.length_drop, List.length_take] at c1011b8))
 (try (have c1011b9 := c1011b1; simp only [List.length_drop, List.length_take] at c1011b9))
 clear c1011
 simp only [Option.some.injEq, Prod.mk.injEq] at H
 obtain ⟨rfl, rfl, rfl, rfl, rfl, rfl, rfl, rfl⟩ := H
 rotate_left
 rw [if_neg c1011] at H
 have c1011b0 : decide (((l0.drop ((ji1004) : Int).toNat).length : Int) < 8) = false := decide_eq_false c1011
 have c1011b1 : decide ((l0.drop ((ji1004) : Int).toNat).length < 8) = false := decide_eq_false (by omega)
 (try (have c1011b8 := c1011b0; simp only [List.length_drop, List.length_take] at c1011b8))
 (try (have c1011b9 := c1011b1; simp only [List.length_drop, List.length_take] at c1011b9))
 clear c1011
 by_cases c1012 : 9 < (l0.length : Int)
 rw [if_pos c1012] at H
 have c1012b0 : decide (9 < (l0.length : Int)) = true := decide_eq_true c1012
 have c1012b1 : decide (9 < l0.length) = true := decide_eq_true (by omega)
 clear c1012
 by_cases c1013 : 12 ≤ 16
 rw [if_pos c1013] at H
 have c1013b0 := eq_true c1013
 have c1013b1 : decide (12 ≤ 16) = true := decide_eq_true c1013
 clear c1013
 by_cases c1014 : 16 ≤ (l0.length : Int)
 rw [if_pos c1014] at H
 have c1014b0 := eq_true c1014
 have c1014b1 : decide (16 ≤ (l0.length : Int)) = true := decide_eq_true c1014
 clear c1014
 replace H := Option.bind_eq_some_iff.mp H
 obtain ⟨t142, A10150, H⟩ := H
 replace H : (if 16 ≤ 20 then (if 20 ≤ (l0.length : Int) then ((impl_get.f kj4 ((l0.take 20).drop 16)).bind fun t144 => (if 4 ≤ 6 then (if 6 ≤ (l0.length : Int) then ((impl_get.f kj4 ((l0.take 6).drop 4)).bind fun t146 => (if 2 ≤ ((l0.drop ((ji1004) : Int).toNat).length : Int) then ((impl_get.f kj4 ((l0.drop ((ji1004) : Int).toNat).take 2)).bind fun t148 => (if 2 ≤ 4 then (if 4 ≤ ((l0.drop ((ji1004) : Int).toNat).length : Int) then ((impl_get.f kj4 (((l0.drop ((ji1004) : Int).toNat).take 4).drop 2)).bind fun t150 => (if 4 ≤ 8 then (if 8 ≤ ((l0.drop ((ji1004) : Int).toNat).length : Int) then ((impl_get.f kj4 (((l0.drop ((ji1004) : Int).toNat).take 8).drop 4)).bind fun t152 => (some (wrap64 (rd l0 9), t142, t144, t146, t148, t150, t152, 0))) else (none)) else (none))) else (none)) else (none))) else (none))) else (none)) else (none))) else (none)) else (none)) = some (r1, r2, r3, r4, r5, r6, r7, r8) := H
 have A1015 := Aside0.mk A10150
 clear A10150
 by_cases c1016 : 16 ≤ 20
 rw [if_pos c1016] at H
 have c1016b0 := eq_true c1016
 have c1016b1 : decide (16 ≤ 20) = true := decide_eq_true c1016
 clear c1016
 by_cases c1017 : 20 ≤ (l0.length : Int)
 rw [if_pos c1017] at H
 have c1017b0 := eq_true c1017
 have c1017b1 : decide (20 ≤ (l0.length : Int)) = true := decide_eq_true c1017
 clear c1017
 replace H := Option.bind_eq_some_iff.mp H
 obtain ⟨t144, A10180, H⟩ := H
 replace H : (if 4 ≤ 6 then (if 6 ≤ (l0.length : Int) then ((impl_get.f kj4 ((l0.take 6).drop 4)).bind fun t146 => (if 2 ≤ ((l0.drop ((ji1004) : Int).toNat).length : Int) then ((impl_get.f kj4 ((l0.drop ((ji1004) : Int).toNat).take 2)).bind fun t148 => (if 2 ≤ 4 then (if 4 ≤ ((l0.drop ((ji1004) : Int).toNat).length : Int) then ((impl_get.f kj4 (((l0.drop ((ji1004) : Int).toNat).take 4).drop 2)).bind fun t150 => (if 4 ≤ 8 then (if 8 ≤ ((l0.drop ((ji1004) : Int).toNat).length : Int) then ((impl_get.f kj4 (((l0.drop ((ji1004) : Int).toNat).take 8).drop 4)).bind fun t152 => (some (wrap64 (rd l0 9), t142, t144, t146, t148, t150, t152, 0))) else (none)) else (none))) else (none)) else (none))) else (none))) else (none)) else (none)) = some (r1, r2, r3, r4, r5, r6, r7, r8) := H
 have A1018 := Aside0.mk A10180
 clear A10180
 by_cases c1019 : 4 ≤ 6
 rw [if_pos c1019] at H
 have c1019b0 := eq_true c1019
 have c1019b1 : decide (4 ≤ 6) = true := decide_eq_true c1019
 clear c1019
 by_cases c1020 : 6 ≤ (l0.length : Int)
 rw [if_pos c1020] at H
 have c1020b0 := eq_true c1020
 have c1020b1 : decide (6 ≤ (l0.length : Int)) = true := decide_eq_true c1020
 clear c1020
 replace H := Option.bind_eq_some_iff.mp H
 obtain ⟨t146, A10210, H⟩ := H
 replace H : (if 2 ≤ ((l0.drop ((ji1004) : Int).toNat).length : Int) then ((impl_get.f kj4 ((l0.drop ((ji1004) : Int).toNat).take 2)).bind fun t148 => (if 2 ≤ 4 then (if 4 ≤ ((l0.drop ((ji1004) : Int).toNat).length : Int) then ((impl_get.f kj4 (((l0.drop ((ji1004) : Int).toNat).take 4).drop 2)).bind fun t150 => (if 4 ≤ 8 then (if 8 ≤ ((l0.drop ((ji1004) : Int).toNat).length : Int) then ((impl_get.f kj4 (((l0.drop ((ji1004) : Int).toNat).take 8).drop 4)).bind fun t152 => (some (wrap64 (rd l0 9), t142, t144, t146, t148, t150, t152, 0))) else (none)) else (none))) else (none)) else (none))) else (none)) = some (r1, r2, r3, r4, r5, r6, r7, r8) := H
 have A1021 := Aside0.mk A10210
 clear A10210
 by_cases c1022 : 2 ≤ ((l0.drop ((ji1004) : Int).toNat).length : Int)
 rw [if_pos c1022] at H
 have c1022b0 := eq_true c1022
 have c1022b1 : decide (2 ≤ ((l0.drop ((ji1004) : Int).toNat).length : Int)) = true := decide_eq_true c1022
 (try (have c1022b3 : (2 ≤ ((c0 - ((ji1004) : Int).toNat : Nat) : Int)) = True := eq_true (by have hc_ := HC0.out; have hq_ := c1022; simp only [List.length_drop, List.length_take] at hq_; omega)))
 clear c1022
 replace H := Option.bind_eq_some_iff.mp H
 obtain ⟨t148, A10230, H⟩ := H
 replace H : (if 2 ≤ 4 then (if 4 ≤ ((l0.drop ((ji1004) : Int).toNat).length : Int) then ((impl_get.f kj4 (((l0.drop ((ji1004) : Int).toNat).take 4).drop 2)).bind fun t150 => (if 4 ≤ 8 then (if 8 ≤ ((l0.drop ((ji1004) : Int).toNat).length : Int) then ((impl_get.f kj4 (((l0.drop ((ji1004) : Int).toNat).take 8).drop 4)).bind fun t152 => (some (wrap64 (rd l0 9), t142, t144, t146, t148, t150, t152, 0))) else (none)) else (none))) else (none)) else (none)) = some (r1, r2, r3, r4, r5, r6, r7, r8) := H
 have A1023 := Aside0.mk A10230
 clear A10230
 by_cases c1024 : 2 ≤ 4
 rw [if_pos c1024] at H
 have c1024b0 := eq_true c1024
 have c1024b1 : decide (2 ≤ 4) = true := decide_eq_true c1024
 clear c1024
 by_cases c1025 : 4 ≤ ((l0.drop ((ji1004) : Int).toNat).length : Int)
 rw [if_pos c1025] at H
 have c1025b0 := eq_true c1025
 have c1025b1 : decide (4 ≤ ((l0.drop ((ji1004) : Int).toNat).length : Int)) = true := decide_eq_true c1025
 (try (have c1025b3 : (4 ≤ ((c0 - ((ji1004) : Int).toNat : Nat) : Int)) = True := eq_true (by have hc_ := HC0.out; have hq_ := c1025; simp only [List.length_drop, List.length_take] at hq_; omega)))
 clear c1025
 replace H := Option.bind_eq_some_iff.mp H
 obtain ⟨t150, A10260, H⟩ := H
 replace H : (if 4 ≤ 8 then (if 8 ≤ ((l0.drop ((ji1004) : Int).toNat).length : Int) then ((impl_get.f kj4 (((l0.drop ((ji1004) : Int).toNat).take 8).drop 4)).bind fun t152 => (some (wrap64 (rd l0 9), t142, t144, t146, t148, t150, t152, 0))) else (none)) else (none)) = some (r1, r2, r3, r4, r5, r6, r7, r8) := H
 have A1026 := Aside0.mk A10260
 clear A10260
 by_cases c1027 : 4 ≤ 8
 rw [if_pos c1027] at H
 have c1027b0 := eq_true c1027
 have c1027b1 : decide (4 ≤ 8) = true := decide_eq_true c1027
 clear c1027
 by_cases c1028 : 8 ≤ ((l0.drop ((ji1004) : Int).toNat).length : Int)
 rw [if_pos c1028] at H
 have c1028b0 := eq_true c1028
 have c1028b1 : decide (8 ≤ ((l0.drop ((ji1004) : Int).toNat).length : Int)) = true := decide_eq_true c1028
 (try (have c1028b3 : (8 ≤ ((c0 - ((ji1004) : Int).toNat : Nat) : Int)) = True := eq_true (by have hc_ := HC0.out; have hq_ := c1028; simp only [List.length_drop, List.length_take] at hq_; omega)))
 clear c1028
 replace H := Option.bind_eq_some_iff.mp H
 obtain ⟨t152, A10290, H⟩ := H
 replace H : (some (wrap64 (rd l0 9), t142, t144, t146, t148, t150, t152, 0)) = some (r1, r2, r3, r4, r5, r6, r7, r8) := H
 have A1029 := Aside0.mk A10290
 clear A10290
 simp only [Option.some.injEq, Prod.mk.injEq] at H
 obtain ⟨rfl, rfl, rfl, rfl, rfl, rfl, rfl, rfl⟩ := H
 rotate_left
 rw [if_neg c1028] at H
 exact absurd H (by simp)
 rw [if_neg c1027] at H
 exact absurd H (by simp)
 rw [if_neg c1025] at H
 exact absurd H (by simp)
 rw [if_neg c1024] at H
 exact absurd H (by simp)
 rw [if_neg c1022] at H
 exact absurd H (by simp)
 rw [if_neg c1020] at H
 exact absurd H (by simp)
 rw [if_neg c1019] at H
 exact absurd H (by simp)
 rw [if_neg c1017] at H
 exact absurd H (by simp)
 rw [if_neg c1016] at H
 exact absurd H (by simp)
 rw [if_neg c1014] at H
 exact absurd H (by simp)
 rw [if_neg c1013] at H
 exact absurd H (by simp)
 rw [if_neg c1012] at H
 exact absurd H (by simp)
 rw [if_neg c1008] at H
 have c1008b0 : (t138 == 0) = false := beq_eq_false_iff_ne.mpr c1008
 have c1008b1 : (t138 != 0) = true := bne_iff_ne.mpr c1008
 simp only [Option.some.injEq, Prod.mk.injEq] at H
 obtain ⟨rfl, rfl, rfl, rfl, rfl, rfl, rfl, rfl⟩ := H
 rotate_left
 rw [if_neg c1006] at H
 exact absurd H (by simp)
 rw [if_neg c1005] at H
 exact absurd H (by simp)
 {
 obtain ⟨⟨hcz2001_0, hcz2001_1, hcz2001_2, hcz2001_3, hcz2001_4, hcz2001_5, hcz2001_6⟩, hfz2001_0, hfz2001_1, hfz2001_2, hfz2001_3, hfz2001_4, hfz2001_5, hfz2001_6⟩ := cells7 BK134.out
 go_wp2_with (first | ((with_reducible refine gate_store (t := 38) (p := 2) rfl ?_); (try (rw [drewN_self wc]; generalize hq_ : World.drewN wc _ = wc; have n0_ := Aside0.mk (blk_at hq_ BK134.out); have n1_ := Aside0.mk (below_at hq_ HB.out); clear hq_ BK134 HB; have BK134 := n0_; have HB := n1_; clear n0_ n1_; (try (obtain ⟨⟨hcyBK134_0, hcyBK134_1, hcyBK134_2, hcyBK134_3, hcyBK134_4, hcyBK134_5, hcyBK134_6⟩, hfyBK134_0, hfyBK134_1, hfyBK134_2, hfyBK134_3, hfyBK134_4, hfyBK134_5, hfyBK134_6⟩ := cells7 BK134.out)))); refine store_event (t := 38) (p := 2) (v := ?_) (w1 := (((((((wc.setCell ⟨gb134, 0, none⟩ (.int .i64 0)).setCell ⟨gb134, 1, none⟩ (.int .i64 0)).setCell ⟨gb134, 2, none⟩ (.int .i64 0)).setCell ⟨gb134, 3, none⟩ (.int .i64 0)).setCell ⟨gb134, 4, none⟩ (.int .i64 0)).setCell ⟨gb134, 5, none⟩ (.int .i64 0)).setCell ⟨gb134, 6, none⟩ (.int .i64 0))) ?hg ?ho ?hn ?hr ?_; (case ho => rfl); (case hg => rfl); (case hn => rfl); (case hr => first | (go_simp; done) | (go_simp; rfl)); intro w2002 hw; have n0_ : Aside0 (w2002.heap[gb134]? = some (.cells #[.int .i64 0, .int .i64 0, .int .i64 0, .int .i64 0, .int .i64 0, .int .i64 0, .int .i64 0] 38 (0, 0))) := ⟨(by rw [hw]; exact (by (with_reducible repeat (first | refine blk_drewN ?_ _ | refine blk_drew ?_ | refine blk_alloc ?_ _)); refine blk_put (cs := #[.int .i64 0, .int .i64 0, .int .i64 0, .int .i64 0, .int .i64 0, .int .i64 0, .int .i64 0]) ?_ 6 _ rfl; (with_reducible repeat (first | refine blk_drewN ?_ _ | refine blk_drew ?_ | refine blk_alloc ?_ _)); refine blk_put (cs := #[.int .i64 0, .int .i64 0, .int .i64 0, .int .i64 0, .int .i64 0, .int .i64 0, .int .i64 0]) ?_ 5 _ rfl; (with_reducible repeat (first | refine blk_drewN ?_ _ | refine blk_drew ?_ | refine blk_alloc ?_ _)); refine blk_put (cs := #[.int .i64 0, .int .i64 0, .int .i64 0, .int .i64 0, .int .i64 0, .int .i64 0, .int .i64 0]) ?_ 4 _ rfl; (with_reducible repeat (first | refine blk_drewN ?_ _ | refine blk_drew ?_ | refine blk_alloc ?_ _)); refine blk_put (cs := #[.int .i64 0, .int .i64 0, .int .i64 0, .int .i64 0, .int .i64 0, .int .i64 0, .int .i64 0]) ?_ 3 _ rfl; (with_reducible repeat (first | refine blk_drewN ?_ _ | refine blk_drew ?_ | refine blk_alloc ?_ _)); refine blk_put (cs := #[.int .i64 0, .int .i64 0, .int .i64 0, .int .i64 0, .int .i64 0, .int .i64 0, .int .i64 0]) ?_ 2 _ rfl; (with_reducible repeat (first | refine blk_drewN ?_ _ | refine blk_drew ?_ | refine blk_alloc ?_ _)); refine blk_put (cs := #[.int .i64 0, .int .i64 0, .int .i64 0, .int .i64 0, .int .i64 0, .int .i64 0, .int .i64 0]) ?_ 1 _ rfl; (with_reducible repeat (first | refine blk_drewN ?_ _ | refine blk_drew ?_ | refine blk_alloc ?_ _)); refine blk_put (cs := #[.int .i64 0, .int .i64 0, .int .i64 0, .int .i64 0, .int .i64 0, .int .i64 0, .int .i64 0]) ?_ 0 _ rfl; (with_reducible repeat (first | refine blk_drewN ?_ _ | refine blk_drew ?_ | refine blk_alloc ?_ _)); exact BK134.out))⟩; have n1_ : Aside0 (Below w.heap.size w w2002) := ⟨(by rw [hw]; exact wB)⟩; clear hw; clear BK134; clear HB; have BK134 := n0_; have HB := n1_; clear n0_ n1_))
 refine bodyPost_ret (results_ct rfl _ _ gb134 38 #[.int .i64 0, .int .i64 0, .int .i64 0, .int .i64 0, .int .i64 0, .int .i64 0, .int .i64 0] (0, 0) _ rfl (Bh BK134) Try.underlying38 rfl (by kernel_rfl)) rfl ?_
 exact ⟨by first | rfl | (simp [errW_none, errW_some] <;> rfl) | (simp [*, errW_none, errW_some] <;> rfl), wB⟩
 }
 all_goals (
 obtain ⟨i02001, hi02001, _, hsz2001, _⟩ := info_parts info5
 obtain ⟨hcut2001, hA2001, hC2001⟩ := print_take_of (P := Try.prog) (Value.int .u8) 0 22 5 .i64 Try.underlying22 hi02001 hsz2001 (some ad135) c0 l0 (ji1004) (of_decide_eq_true (by first | (with_reducible assumption) | assumption)) (of_decide_eq_true (by first | (with_reducible assumption) | assumption)) HC0.out
 have HR137 := Aside0.mk (Kd.C_of_reads (h1 := fun _ => rfl) (hA2001 _ (Kd.reads_of_C HR0.out)))
 have HC137 := Aside0.mk hC2001
 clear hA2001 hC2001 hi02001 hsz2001
 )
 {
 go_wp2_with (first | ((with_reducible refine gate_callee (f := 71) rfl ?_); refine goesL_ (some 34) rfl rfl Try.func71 (by kernel_rfl) rfl #[.slice (some ad135) (l0.take ((ji1004) : Int).toNat).length c0] rfl (by (try simp only [List.map_toArray, List.map_cons, List.map_nil]); first | done | (rw [show (l0.take ((ji1004) : Int).toNat).length = (ji1004).toNat from (by rw [List.length_take]; have h_ : ((ji1004) : Int) ≤ (l0.length : Int) := of_decide_eq_true (by first | (with_reducible assumption) | assumption); omega)] <;> rfl) | (simp only [hji1004]; rfl) | rfl | (simp only [List.length_drop, List.length_take]; rfl)) ?_; (with_reducible refine (impl_Checksum.calls kj4 _ _ (l0.take ((ji1004) : Int).toNat) t138 _ ?side1 ?side2 A1007.out).mono ?_); (case side1 => exact Kd.C_below HR137.out wB); (case side2 => exact HC137.out); rintro e w' ⟨rfl, ⟨nd, rfl⟩⟩; refine ⟨_, rfl, ?_⟩; (try (rw [drewN_self wc]; generalize hq_ : World.drewN wc _ = wc; have n0_ := Aside0.mk (blk_at hq_ BK134.out); have n1_ := Aside0.mk (below_at hq_ HB.out); clear hq_ BK134 HB; have BK134 := n0_; have HB := n1_; clear n0_ n1_; (try (obtain ⟨⟨hcyBK134_0, hcyBK134_1, hcyBK134_2, hcyBK134_3, hcyBK134_4, hcyBK134_5, hcyBK134_6⟩, hfyBK134_0, hfyBK134_1, hfyBK134_2, hfyBK134_3, hfyBK134_4, hfyBK134_5, hfyBK134_6⟩ := cells7 BK134.out)))); obtain ⟨i02002, hi02002, _, hsz2002, _⟩ := info_parts info5; obtain ⟨A2002, hcut2002, hA2002, hC2002⟩ := print_drop_of (P := Try.prog) (Value.int .u8) 0 22 5 .i64 Try.underlying22 hi02002 hsz2002 (some ad135) c0 l0 (ji1004) (of_decide_eq_true (by first | (with_reducible assumption) | assumption)) (of_decide_eq_true (by first | (with_reducible assumption) | assumption)) HC0.out; have HR139 := Aside0.mk (Kd.C_of_reads (h1 := fun _ => rfl) (hA2002 _ (Kd.reads_of_C HR0.out))); have HC139 := Aside0.mk hC2002; clear hA2002 hC2002 hi02002 hsz2002; obtain ⟨⟨hcz2003_0, hcz2003_1, hcz2003_2, hcz2003_3, hcz2003_4, hcz2003_5, hcz2003_6⟩, hfz2003_0, hfz2003_1, hfz2003_2, hfz2003_3, hfz2003_4, hfz2003_5, hfz2003_6⟩ := cells7 BK134.out) | ((with_reducible refine gate_store (t := 38) (p := 2) rfl ?_); (try (rw [drewN_self wc]; generalize hq_ : World.drewN wc _ = wc; have n0_ := Aside0.mk (blk_at hq_ BK134.out); have n1_ := Aside0.mk (below_at hq_ HB.out); clear hq_ BK134 HB; have BK134 := n0_; have HB := n1_; clear n0_ n1_; (try (obtain ⟨⟨hcyBK134_0, hcyBK134_1, hcyBK134_2, hcyBK134_3, hcyBK134_4, hcyBK134_5, hcyBK134_6⟩, hfyBK134_0, hfyBK134_1, hfyBK134_2, hfyBK134_3, hfyBK134_4, hfyBK134_5, hfyBK134_6⟩ := cells7 BK134.out)))); refine store_event (t := 38) (p := 2) (v := ?_) (w1 := (((((((wc.setCell ⟨gb134, 0, none⟩ (.int .i64 0)).setCell ⟨gb134, 1, none⟩ (.int .i64 0)).setCell ⟨gb134, 2, none⟩ (.int .i64 0)).setCell ⟨gb134, 3, none⟩ (.int .i64 0)).setCell ⟨gb134, 4, none⟩ (.int .i64 0)).setCell ⟨gb134, 5, none⟩ (.int .i64 0)).setCell ⟨gb134, 6, none⟩ (.int .i64 0))) ?hg ?ho ?hn ?hr ?_; (case ho => rfl); (case hg => rfl); (case hn => rfl); (case hr => first | (go_simp; done) | (go_simp; rfl)); intro w2004 hw; have n0_ : Aside0 (w2004.heap[gb134]? = some (.cells #[.int .i64 0, .int .i64 0, .int .i64 0, .int .i64 0, .int .i64 0, .int .i64 0, .int .i64 0] 38 (0, 0))) := ⟨(by rw [hw]; exact (by (with_reducible repeat (first | refine blk_drewN ?_ _ | refine blk_drew ?_ | refine blk_alloc ?_ _)); refine blk_put (cs := #[.int .i64 0, .int .i64 0, .int .i64 0, .int .i64 0, .int .i64 0, .int .i64 0, .int .i64 0]) ?_ 6 _ rfl; (with_reducible repeat (first | refine blk_drewN ?_ _ | refine blk_drew ?_ | refine blk_alloc ?_ _)); refine blk_put (cs := #[.int .i64 0, .int .i64 0, .int .i64 0, .int .i64 0, .int .i64 0, .int .i64 0, .int .i64 0]) ?_ 5 _ rfl; (with_reducible repeat (first | refine blk_drewN ?_ _ | refine blk_drew ?_ | refine blk_alloc ?_ _)); refine blk_put (cs := #[.int .i64 0, .int .i64 0, .int .i64 0, .int .i64 0, .int .i64 0, .int .i64 0, .int .i64 0]) ?_ 4 _ rfl; (with_reducible repeat (first | refine blk_drewN ?_ _ | refine blk_drew ?_ | refine blk_alloc ?_ _)); refine blk_put (cs := #[.int .i64 0, .int .i64 0, .int .i64 0, .int .i64 0, .int .i64 0, .int .i64 0, .int .i64 0]) ?_ 3 _ rfl; (with_reducible repeat (first | refine blk_drewN ?_ _ | refine blk_drew ?_ | refine blk_alloc ?_ _)); refine blk_put (cs := #[.int .i64 0, .int .i64 0, .int .i64 0, .int .i64 0, .int .i64 0, .int .i64 0, .int .i64 0]) ?_ 2 _ rfl; (with_reducible repeat (first | refine blk_drewN ?_ _ | refine blk_drew ?_ | refine blk_alloc ?_ _)); refine blk_put (cs := #[.int .i64 0, .int .i64 0, .int .i64 0, .int .i64 0, .int .i64 0, .int .i64 0, .int .i64 0]) ?_ 1 _ rfl; (with_reducible repeat (first | refine blk_drewN ?_ _ | refine blk_drew ?_ | refine blk_alloc ?_ _)); refine blk_put (cs := #[.int .i64 0, .int .i64 0, .int .i64 0, .int .i64 0, .int .i64 0, .int .i64 0, .int .i64 0]) ?_ 0 _ rfl; (with_reducible repeat (first | refine blk_drewN ?_ _ | refine blk_drew ?_ | refine blk_alloc ?_ _)); exact BK134.out))⟩; have n1_ : Aside0 (Below w.heap.size w w2004) := ⟨(by rw [hw]; exact wB)⟩; clear hw; clear BK134; clear HB; have BK134 := n0_; have HB := n1_; clear n0_ n1_))
 refine bodyPost_ret (results_ct rfl _ _ gb134 38 #[.int .i64 0, .int .i64 0, .int .i64 0, .int .i64 0, .int .i64 0, .int .i64 0, .int .i64 0] (0, 0) _ rfl (Bh BK134) Try.underlying38 rfl (by kernel_rfl)) rfl ?_
 exact ⟨by first | rfl | (simp [errW_none, errW_some] <;> rfl) | (simp only [← hji1004]; first | rfl | (simp [errW_none, errW_some] <;> rfl)) | (simp [*, errW_none, errW_some] <;> rfl), wB⟩
 }
 {
 try go_wp2_with (first | ((with_reducible refine gate_callee (f := 71) rfl ?_); refine goesL_ (some 34) rfl rfl Try.func71 (by kernel_rfl) rfl #[.slice (some ad135) (l0.take ((ji1004) : Int).toNat).length c0] rfl (by (try simp only [List.map_toArray, List.map_cons, List.map_nil]); first | done | (rw [show (l0.take ((ji1004) : Int).toNat).length = (ji1004).toNat from (by rw [List.length_take]; have h_ : ((ji1004) : Int) ≤ (l0.length : Int) := of_decide_eq_true (by first | (with_reducible assumption) | assumption); omega)] <;> rfl) | (simp only [hji1004]; rfl) | rfl | (simp only [List.length_drop, List.length_take]; rfl)) ?_; (with_reducible refine (impl_Checksum.calls kj4 _ _ (l0.take ((ji1004) : Int).toNat) t138 _ ?side1 ?side2 A1007.out).mono ?_); (case side1 => exact Kd.C_below HR137.out wB); (case side2 => exact HC137.out); rintro e w' ⟨rfl, ⟨nd, rfl⟩⟩; refine ⟨_, rfl, ?_⟩; (try (rw [drewN_self wc]; generalize hq_ : World.drewN wc _ = wc; have n0_ := Aside0.mk (blk_at hq_ BK134.out); have n1_ := Aside0.mk (below_at hq_ HB.out); clear hq_ BK134 HB; have BK134 := n0_; have HB := n1_; clear n0_ n1_; (try (obtain ⟨⟨hcyBK134_0, hcyBK134_1, hcyBK134_2, hcyBK134_3, hcyBK134_4, hcyBK134_5, hcyBK134_6⟩, hfyBK134_0, hfyBK134_1, hfyBK134_2, hfyBK134_3, hfyBK134_4, hfyBK134_5, hfyBK134_6⟩ := cells7 BK134.out)))); obtain ⟨i02002, hi02002, _, hsz2002, _⟩ := info_parts info5; obtain ⟨A2002, hcut2002, hA2002, hC2002⟩ := print_drop_of (P := Try.prog) (Value.int .u8) 0 22 5 .i64 Try.underlying22 hi02002 hsz2002 (some ad135) c0 l0 (ji1004) (of_decide_eq_true (by first | (with_reducible assumption) | assumption)) (of_decide_eq_true (by first | (with_reducible assumption) | assumption)) HC0.out; have HR139 := Aside0.mk (Kd.C_of_reads (h1 := fun _ => rfl) (hA2002 _ (Kd.reads_of_C HR0.out))); have HC139 := Aside0.mk hC2002; clear hA2002 hC2002 hi02002 hsz2002))
 have n0_ := Aside0.mk (blk_drew BK134.out)
 have n1_ := Aside0.mk (below_drew1 HB.out)
 clear BK134
 clear HB
 have BK134 := n0_
 have HB := n1_
 clear n0_ n1_
 have p140 : 0 ≤ (9 : Int) := (by omega)
 have q140 : 9 < (l0.length : Int) := of_decide_eq_true (by first | (with_reducible assumption) | assumption)
 obtain ⟨ad140, e140, hx140_0⟩ := Kd.at_int HR0.out 9 p140 q140
 have hw140_0 := hx140_0
 (try rw [show ((9 : Int)).toNat = 9 from rfl] at hw140_0)
 (try rw [show 9 * 1 = 9 from rfl] at hw140_0)
 (try simp only [Nat.reduceMul, Nat.reduceEqDiff, Go.Addr.add, ↓reduceIte] at hw140_0)
 obtain rfl : ad135 = ad140 := (by injection e140)
 (try simp only [show (9 : Int).toNat = 9 from rfl, Nat.reduceMul, Nat.reduceEqDiff, Go.Addr.add, ↓reduceIte] at hx140_0)
 have qi140 : (9 < l0.length) = True := eq_true (by omega)
 (try rw [show ((9 : Int)).toNat = 9 from rfl] at hx140_0)
 replace hx140_0 := (HB.out.cell (World.block_lt_of_cell? w _ hx140_0)).trans hx140_0
 replace p140 := eq_true p140
 replace q140 := eq_true q140
 obtain ⟨i02004, hi02004, _, hsz2004, _⟩ := info_parts info5
 obtain ⟨A2004, hcut2004, hA2004, hC2004⟩ := print_mid_of (P := Try.prog) (Value.int .u8) 0 22 5 .i64 .i64 Try.underlying22 hi02004 hsz2004 (some ad135) c0 l0 12 16 (by omega) (by first | omega | exact of_decide_eq_true (by first | (with_reducible assumption) | assumption)) (of_decide_eq_true (by first | (with_reducible assumption) | assumption)) HC0.out
 have HR141 := Aside0.mk (Kd.C_of_reads (h1 := fun _ => rfl) (hA2004 _ (Kd.reads_of_C HR0.out)))
 have HC141 := Aside0.mk hC2004
 clear hA2004 hC2004 hi02004 hsz2004
 obtain ⟨i02005, hi02005, _, hsz2005, _⟩ := info_parts info5
 obtain ⟨A2005, hcut2005, hA2005, hC2005⟩ := print_mid_of (P := Try.prog) (Value.int .u8) 0 22 5 .i64 .i64 Try.underlying22 hi02005 hsz2005 (some ad135) c0 l0 16 20 (by omega) (by first | omega | exact of_decide_eq_true (by first | (with_reducible assumption) | assumption)) (of_decide_eq_true (by first | (with_reducible assumption) | assumption)) HC0.out
 have HR143 := Aside0.mk (Kd.C_of_reads (h1 := fun _ => rfl) (hA2005 _ (Kd.reads_of_C HR0.out)))
 have HC143 := Aside0.mk hC2005
 clear hA2005 hC2005 hi02005 hsz2005
 obtain ⟨i02006, hi02006, _, hsz2006, _⟩ := info_parts info5
 obtain ⟨A2006, hcut2006, hA2006, hC2006⟩ := print_mid_of (P := Try.prog) (Value.int .u8) 0 22 5 .i64 .i64 Try.underlying22 hi02006 hsz2006 (some ad135) c0 l0 4 6 (by omega) (by first | omega | exact of_decide_eq_true (by first | (with_reducible assumption) | assumption)) (of_decide_eq_true (by first | (with_reducible assumption) | assumption)) HC0.out
 have HR145 := Aside0.mk (Kd.C_of_reads (h1 := fun _ => rfl) (hA2006 _ (Kd.reads_of_C HR0.out)))
 have HC145 := Aside0.mk hC2006
 clear hA2006 hC2006 hi02006 hsz2006
 obtain ⟨i02007, hi02007, _, hsz2007, _⟩ := info_parts info5
 obtain ⟨hcut2007, hA2007, hC2007⟩ := print_take_of (P := Try.prog) (Value.int .u8) 0 22 5 .i64 Try.underlying22 hi02007 hsz2007 A2002 (c0 - (ji1004).toNat) (l0.drop ((ji1004) : Int).toNat) 2 (by omega) (of_decide_eq_true (by first | (with_reducible assumption) | assumption)) HC139.out
 have HR147 := Aside0.mk (Kd.C_of_reads (h1 := fun _ => rfl) (hA2007 _ (Kd.reads_of_C HR139.out)))
 have HC147 := Aside0.mk hC2007
 clear hA2007 hC2007 hi02007 hsz2007
 (try (have hcu2007 := hcut2007; (try simp only [Int.reduceToNat] at hcu2007); rw [show ((l0.drop ((ji1004) : Int).toNat).take 2).length = 2 from (by rw [List.length_take]; have h_ : (2 : Int) ≤ ((l0.drop ((ji1004) : Int).toNat).length : Int) := of_decide_eq_true (by first | (with_reducible assumption) | assumption); omega), show (l0.drop ((ji1004) : Int).toNat).length = (l0.length - (ji1004).toNat) from List.length_drop] at hcu2007))
 obtain ⟨i02008, hi02008, _, hsz2008, _⟩ := info_parts info5
 obtain ⟨A2008, hcut2008, hA2008, hC2008⟩ := print_mid_of (P := Try.prog) (Value.int .u8) 0 22 5 .i64 .i64 Try.underlying22 hi02008 hsz2008 A2002 (c0 - (ji1004).toNat) (l0.drop ((ji1004) : Int).toNat) 2 4 (by omega) (by first | omega | exact of_decide_eq_true (by first | (with_reducible assumption) | assumption)) (of_decide_eq_true (by first | (with_reducible assumption) | assumption)) HC139.out
 have HR149 := Aside0.mk (Kd.C_of_reads (h1 := fun _ => rfl) (hA2008 _ (Kd.reads_of_C HR139.out)))
 have HC149 := Aside0.mk hC2008
 clear hA2008 hC2008 hi02008 hsz2008
 (try (have hcu2008 := hcut2008; (try simp only [Int.reduceToNat] at hcu2008); rw [show (((l0.drop ((ji1004) : Int).toNat).take 4).drop 2).length = (4 - 2) from (by rw [List.length_drop, List.length_take]; have h_ : (4 : Int) ≤ ((l0.drop ((ji1004) : Int).toNat).length : Int) := of_decide_eq_true (by first | (with_reducible assumption) | assumption); omega), show (l0.drop ((ji1004) : Int).toNat).length = (l0.length - (ji1004).toNat) from List.length_drop] at hcu2008))
 obtain ⟨i02009, hi02009, _, hsz2009, _⟩ := info_parts info5
 obtain ⟨A2009, hcut2009, hA2009, hC2009⟩ := print_mid_of (P := Try.prog) (Value.int .u8) 0 22 5 .i64 .i64 Try.underlying22 hi02009 hsz2009 A2002 (c0 - (ji1004).toNat) (l0.drop ((ji1004) : Int).toNat) 4 8 (by omega) (by first | omega | exact of_decide_eq_true (by first | (with_reducible assumption) | assumption)) (of_decide_eq_true (by first | (with_reducible assumption) | assumption)) HC139.out
 have HR151 := Aside0.mk (Kd.C_of_reads (h1 := fun _ => rfl) (hA2009 _ (Kd.reads_of_C HR139.out)))
 have HC151 := Aside0.mk hC2009
 clear hA2009 hC2009 hi02009 hsz2009
 (try (have hcu2009 := hcut2009; (try simp only [Int.reduceToNat] at hcu2009); rw [show (((l0.drop ((ji1004) : Int).toNat).take 8).drop 4).length = (8 - 4) from (by rw [List.length_drop, List.length_take]; have h_ : (8 : Int) ≤ ((l0.drop ((ji1004) : Int).toNat).length : Int) := of_decide_eq_true (by first | (with_reducible assumption) | assumption); omega), show (l0.drop ((ji1004) : Int).toNat).length = (l0.length - (ji1004).toNat) from List.length_drop] at hcu2009))
 refine start_ (n := 25) (S := fun w' => w'.cell? ⟨ad135.block, ad135.off + 9, none⟩ = some (.int .u8 (rd l0 9))) (ds := []) #[false, false, false, false, false, false, false, false, false, false, false, false, false, false, false, false, false, false, false, false, false, false, false, false, false] (by kernel_rfl) rfl rfl (((HB.out.cell (World.block_lt_of_cell? w _ hw140_0)).trans hw140_0)) (fun hHeld => ?_); refine with_tabW impl_ReadQuote.tab13 impl_ReadQuote.bits13 (fun HT_ HW_ => ?_)
 generalize wc.drew = w2003 at BK134 HB HR141 HR143 HR145 HR147 HR149 HR151 hx140_0 hHeld ⊢
 refine pure_ (i := 0) (N := some 44) (v := ?_) (a' := ?_) #[true, false, false, false, false, false, false, false, false, false, false, false, false, false, false, false, false, false, false, false, false, false, false, false, false] rfl rfl (any_of HT_.out (by kernel_rfl)) (fun _ _ _ h => h) (Or.inl ⟨by rfl, ?_⟩) ?_ ?_
 rotate_left
 {
 intro w'
 go_simp
 with_reducible rfl
 }
 rotate_left
 {
 simp only [Act.put, List.setIfInBounds_toArray, List.set_cons_zero, List.set_cons_succ, i64_w, i32_w]
 rfl
 }
 refine pure_ (i := 1) (N := some 45) (v := ?_) (a' := ?_) #[true, true, false, false, false, false, false, false, false, false, false, false, false, false, false, false, false, false, false, false, false, false, false, false, false] rfl rfl (any_of HT_.out (by kernel_rfl)) (fun _ _ _ h => h) (Or.inl ⟨by rfl, ?_⟩) ?_ ?_
 rotate_left
 {
 intro w'
 go_simp
 with_reducible rfl
 }
 rotate_left
 {
 simp only [Act.put, List.setIfInBounds_toArray, List.set_cons_zero, List.set_cons_succ, i64_w, i32_w]
 rfl
 }
 refine pure_ (i := 4) (N := some 48) (v := ?_) (a' := ?_) #[true, true, false, false, true, false, false, false, false, false, false, false, false, false, false, false, false, false, false, false, false, false, false, false, false] rfl rfl (any_of HT_.out (by kernel_rfl)) (fun _ _ _ h => h) (Or.inl ⟨by rfl, ?_⟩) ?_ ?_
 rotate_left
 {
 intro w'
 go_simp
 with_reducible rfl
 }
 rotate_left
 {
 simp only [Act.put, List.setIfInBounds_toArray, List.set_cons_zero, List.set_cons_succ, i64_w, i32_w]
 rfl
 }
 refine pure_ (i := 5) (N := some 49) (v := ?_) (a' := ?_) #[true, true, false, false, true, true, false, false, false, false, false, false, false, false, false, false, false, false, false, false, false, false, false, false, false] rfl rfl (any_of HT_.out (by kernel_rfl)) (fun _ _ _ h => h) (Or.inl ⟨by rfl, ?_⟩) ?_ ?_
 rotate_left
 {
 intro w'
 go_simp
 with_reducible rfl
 }
 rotate_left
 {
 simp only [Act.put, List.setIfInBounds_toArray, List.set_cons_zero, List.set_cons_succ, i64_w, i32_w]
 rfl
 }
 refine pure_ (i := 7) (N := some 51) (v := ?_) (a' := ?_) #[true, true, false, false, true, true, false, true, false, false, false, false, false, false, false, false, false, false, false, false, false, false, false, false, false] rfl rfl (any_of HT_.out (by kernel_rfl)) (fun _ _ _ h => h) (Or.inl ⟨by rfl, ?_⟩) ?_ ?_
 rotate_left
 {
 intro w'
 go_simp
 with_reducible rfl
 }
 rotate_left
 {
 simp only [Act.put, List.setIfInBounds_toArray, List.set_cons_zero, List.set_cons_succ, i64_w, i32_w]
 rfl
 }
 refine pure_ (i := 8) (N := some 52) (v := ?_) (a' := ?_) #[true, true, false, false, true, true, false, true, true, false, false, false, false, false, false, false, false, false, false, false, false, false, false, false, false] rfl rfl (any_of HT_.out (by kernel_rfl)) (fun _ _ _ h => h) (Or.inl ⟨by rfl, ?_⟩) ?_ ?_
 rotate_left
 {
 intro w'
 go_simp
 with_reducible rfl
 }
 rotate_left
 {
 simp only [Act.put, List.setIfInBounds_toArray, List.set_cons_zero, List.set_cons_succ, i64_w, i32_w]
 rfl
 }
 refine pure_ (i := 10) (N := some 54) (v := ?_) (a' := ?_) #[true, true, false, false, true, true, false, true, true, false, true, false, false, false, false, false, false, false, false, false, false, false, false, false, false] rfl rfl (any_of HT_.out (by kernel_rfl)) (fun _ _ _ h => h) (Or.inl ⟨by rfl, ?_⟩) ?_ ?_
 rotate_left
 {
 intro w'
 go_simp
 with_reducible rfl
 }
 rotate_left
 {
 simp only [Act.put, List.setIfInBounds_toArray, List.set_cons_zero, List.set_cons_succ, i64_w, i32_w]
 rfl
 }
 refine pure_ (i := 11) (N := some 55) (v := ?_) (a' := ?_) #[true, true, false, false, true, true, false, true, true, false, true, true, false, false, false, false, false, false, false, false, false, false, false, false, false] rfl rfl (any_of HT_.out (by kernel_rfl)) (fun _ _ _ h => h) (Or.inl ⟨by rfl, ?_⟩) ?_ ?_
 rotate_left
 {
 intro w'
 go_simp
 with_reducible rfl
 }
 rotate_left
 {
 simp only [Act.put, List.setIfInBounds_toArray, List.set_cons_zero, List.set_cons_succ, i64_w, i32_w]
 rfl
 }
 refine pure_ (i := 13) (N := some 57) (v := ?_) (a' := ?_) #[true, true, false, false, true, true, false, true, true, false, true, true, false, true, false, false, false, false, false, false, false, false, false, false, false] rfl rfl (any_of HT_.out (by kernel_rfl)) (fun _ _ _ h => h) (Or.inl ⟨by rfl, ?_⟩) ?_ ?_
 rotate_left
 {
 intro w'
 go_simp
 with_reducible rfl
 }
 rotate_left
 {
 simp only [Act.put, List.setIfInBounds_toArray, List.set_cons_zero, List.set_cons_succ, i64_w, i32_w]
 rfl
 }
 refine pure_ (i := 14) (N := some 58) (v := ?_) (a' := ?_) #[true, true, false, false, true, true, false, true, true, false, true, true, false, true, true, false, false, false, false, false, false, false, false, false, false] rfl rfl (any_of HT_.out (by kernel_rfl)) (fun _ _ _ h => h) (Or.inl ⟨by rfl, ?_⟩) ?_ ?_
 rotate_left
 {
 intro w'
 go_simp
 with_reducible rfl
 }
 rotate_left
 {
 simp only [Act.put, List.setIfInBounds_toArray, List.set_cons_zero, List.set_cons_succ, i64_w, i32_w]
 rfl
 }
 refine pure_ (i := 16) (N := some 60) (v := ?_) (a' := ?_) #[true, true, false, false, true, true, false, true, true, false, true, true, false, true, true, false, true, false, false, false, false, false, false, false, false] rfl rfl (any_of HT_.out (by kernel_rfl)) (fun _ _ _ h => h) (Or.inl ⟨by rfl, ?_⟩) ?_ ?_
 rotate_left
 {
 intro w'
 go_simp
 with_reducible rfl
 }
 rotate_left
 {
 simp only [Act.put, List.setIfInBounds_toArray, List.set_cons_zero, List.set_cons_succ, i64_w, i32_w]
 rfl
 }
 refine pure_ (i := 17) (N := some 61) (v := ?_) (a' := ?_) #[true, true, false, false, true, true, false, true, true, false, true, true, false, true, true, false, true, true, false, false, false, false, false, false, false] rfl rfl (any_of HT_.out (by kernel_rfl)) (fun _ _ _ h => h) (Or.inl ⟨by rfl, ?_⟩) ?_ ?_
 rotate_left
 {
 intro w'
 go_simp
 with_reducible rfl
 }
 rotate_left
 {
 simp only [Act.put, List.setIfInBounds_toArray, List.set_cons_zero, List.set_cons_succ, i64_w, i32_w]
 rfl
 }
 refine pure_ (i := 19) (N := some 63) (v := ?_) (a' := ?_) #[true, true, false, false, true, true, false, true, true, false, true, true, false, true, true, false, true, true, false, true, false, false, false, false, false] rfl rfl (any_of HT_.out (by kernel_rfl)) (fun _ _ _ h => h) (Or.inl ⟨by rfl, ?_⟩) ?_ ?_
 rotate_left
 {
 intro w'
 go_simp
 with_reducible rfl
 }
 rotate_left
 {
 simp only [Act.put, List.setIfInBounds_toArray, List.set_cons_zero, List.set_cons_succ, i64_w, i32_w]
 rfl
 }
 refine pure_ (i := 20) (N := some 64) (v := ?_) (a' := ?_) #[true, true, false, false, true, true, false, true, true, false, true, true, false, true, true, false, true, true, false, true, true, false, false, false, false] rfl rfl (any_of HT_.out (by kernel_rfl)) (fun _ _ _ h => h) (Or.inl ⟨by rfl, ?_⟩) ?_ ?_
 rotate_left
 {
 intro w'
 go_simp
 with_reducible rfl
 }
 rotate_left
 {
 simp only [Act.put, List.setIfInBounds_toArray, List.set_cons_zero, List.set_cons_succ, i64_w, i32_w]
 rfl
 }
 refine take_ (i := 2) (N := some 46) (v := ?_) (a' := ?_) #[true, true, true, false, true, true, false, true, true, false, true, true, false, true, true, false, true, true, false, true, true, false, false, false, false] rfl rfl (take_ofW HT_.out HW_.out (by kernel_rfl)) (fun _ _ _ h => h) (Or.inl ⟨by rfl, ?_⟩) hHeld ?_ ?_
 rotate_left
 {
 intro w' s0
 go_simp
 with_reducible rfl
 }
 rotate_left
 {
 simp only [Act.put, List.setIfInBounds_toArray, List.set_cons_zero, List.set_cons_succ, i64_w, i32_w]
 rfl
 }
 refine pure_ (i := 3) (N := some 47) (v := ?_) (a' := ?_) #[true, true, true, true, true, true, false, true, true, false, true, true, false, true, true, false, true, true, false, true, true, false, false, false, false] rfl rfl (any_of HT_.out (by kernel_rfl)) (fun _ _ _ h => h) (Or.inl ⟨by rfl, ?_⟩) ?_ ?_
 rotate_left
 {
 intro w'
 go_simp
 with_reducible rfl
 }
 rotate_left
 {
 simp only [Act.put, List.setIfInBounds_toArray, List.set_cons_zero, List.set_cons_succ, i64_w, i32_w]
 rfl
 }
 refine one_ (i := 6) (N := some 50) #[true, true, true, true, true, true, true, true, true, false, true, true, false, true, true, false, true, true, false, true, true, false, false, false, false] rfl rfl (one_of HT_.out (by kernel_rfl)) (by decide) (fun K hK => ?_)
 refine goes_ Try.func72 (by kernel_rfl) rfl #[.slice A2004 ((l0.take 16).drop 12).length (c0 - 12)] (by rfl) rfl rfl (by (try simp only [List.map_toArray, List.map_cons, List.map_nil]); first | done | (rw [show ((l0.take 16).drop 12).length = (16 - 12) from (by rw [List.length_drop, List.length_take]; have h_ : (16 : Int) ≤ (l0.length : Int) := of_decide_eq_true (by first | (with_reducible assumption) | assumption); omega)] <;> rfl) | rfl | (simp only [List.length_drop, List.length_take]; rfl)) ?_
 with_reducible refine (impl_get.calls kj4 _ _ ((l0.take 16).drop 12) t142 _ ?side1 ?side2 A1015.out).mono ?_
 (case side1 => exact Kd.C_below HR141.out wB)
 (case side2 => exact HC141.out)
 rintro e w' ⟨rfl, ⟨nd, rfl⟩⟩
 refine ⟨_, rfl, ?_⟩
 refine hK.out _ _ (((HB.out.cell (World.block_lt_of_cell? w _ hw140_0)).trans hw140_0)) (fun hHeld => ?_)
 clear hK K
 refine norm_ (a' := ?_) ?_ ?_
 rotate_left
 {
 show Act.put _ (some 50) _ = _
 simp only [Act.put, List.setIfInBounds_toArray, List.set_cons_zero, List.set_cons_succ, i64_w, i32_w]
 rfl
 }
 refine one_ (i := 9) (N := some 53) #[true, true, true, true, true, true, true, true, true, true, true, true, false, true, true, false, true, true, false, true, true, false, false, false, false] rfl rfl (one_of HT_.out (by kernel_rfl)) (by decide) (fun K hK => ?_)
 refine goes_ Try.func72 (by kernel_rfl) rfl #[.slice A2005 ((l0.take 20).drop 16).length (c0 - 16)] (by rfl) rfl rfl (by (try simp only [List.map_toArray, List.map_cons, List.map_nil]); first | done | (rw [show ((l0.take 20).drop 16).length = (20 - 16) from (by rw [List.length_drop, List.length_take]; have h_ : (20 : Int) ≤ (l0.length : Int) := of_decide_eq_true (by first | (with_reducible assumption) | assumption); omega)] <;> rfl) | rfl | (simp only [List.length_drop, List.length_take]; rfl)) ?_
 with_reducible refine (impl_get.calls kj4 _ _ ((l0.take 20).drop 16) t144 _ ?side1 ?side2 A1018.out).mono ?_
 (case side1 => repeat (first | exact (Kd.C_below HR143.out wB) | (with_reducible refine Kd.C_alloc ?_ _) | (with_reducible refine Kd.C_drewN ?_ _) | (with_reducible refine Kd.C_drew ?_)))
 (case side2 => exact HC143.out)
 rintro e w' ⟨rfl, ⟨nd, rfl⟩⟩
 refine ⟨_, rfl, ?_⟩
 refine hK.out _ _ (((HB.out.cell (World.block_lt_of_cell? w _ hw140_0)).trans hw140_0)) (fun hHeld => ?_)
 clear hK K
 refine norm_ (a' := ?_) ?_ ?_
 rotate_left
 {
 show Act.put _ (some 53) _ = _
 simp only [Act.put, List.setIfInBounds_toArray, List.set_cons_zero, List.set_cons_succ, i64_w, i32_w]
 rfl
 }
 refine one_ (i := 12) (N := some 56) #[true, true, true, true, true, true, true, true, true, true, true, true, true, true, true, false, true, true, false, true, true, false, false, false, false] rfl rfl (one_of HT_.out (by kernel_rfl)) (by decide) (fun K hK => ?_)
 refine goes_ Try.func72 (by kernel_rfl) rfl #[.slice A2006 ((l0.take 6).drop 4).length (c0 - 4)] (by rfl) rfl rfl (by (try simp only [List.map_toArray, List.map_cons, List.map_nil]); first | done | (rw [show ((l0.take 6).drop 4).length = (6 - 4) from (by rw [List.length_drop, List.length_take]; have h_ : (6 : Int) ≤ (l0.length : Int) := of_decide_eq_true (by first | (with_reducible assumption) | assumption); omega)] <;> rfl) | rfl | (simp only [List.length_drop, List.length_take]; rfl)) ?_
 with_reducible refine (impl_get.calls kj4 _ _ ((l0.take 6).drop 4) t146 _ ?side1 ?side2 A1021.out).mono ?_
 (case side1 => repeat (first | exact (Kd.C_below HR145.out wB) | (with_reducible refine Kd.C_alloc ?_ _) | (with_reducible refine Kd.C_drewN ?_ _) | (with_reducible refine Kd.C_drew ?_)))
 (case side2 => exact HC145.out)
 rintro e w' ⟨rfl, ⟨nd, rfl⟩⟩
 refine ⟨_, rfl, ?_⟩
 refine hK.out _ _ (((HB.out.cell (World.block_lt_of_cell? w _ hw140_0)).trans hw140_0)) (fun hHeld => ?_)
 clear hK K
 refine norm_ (a' := ?_) ?_ ?_
 rotate_left
 {
 show Act.put _ (some 56) _ = _
 simp only [Act.put, List.setIfInBounds_toArray, List.set_cons_zero, List.set_cons_succ, i64_w, i32_w]
 rfl
 }
 refine one_ (i := 15) (N := some 59) #[true, true, true, true, true, true, true, true, true, true, true, true, true, true, true, true, true, true, false, true, true, false, false, false, false] rfl rfl (one_of HT_.out (by kernel_rfl)) (by decide) (fun K hK => ?_)
 refine goes_ Try.func72 (by kernel_rfl) rfl #[.slice A2002 ((l0.drop ((ji1004) : Int).toNat).take 2).length (c0 - (ji1004).toNat)] (by rfl) rfl rfl (by (try simp only [List.map_toArray, List.map_cons, List.map_nil]); first | done | (rw [show ((l0.drop ((ji1004) : Int).toNat).take 2).length = 2 from (by rw [List.length_take]; have h_ : (2 : Int) ≤ ((l0.drop ((ji1004) : Int).toNat).length : Int) := of_decide_eq_true (by first | (with_reducible assumption) | assumption); omega)] <;> rfl) | (simp only [hji1004]; rfl) | rfl | (simp only [List.length_drop, List.length_take]; rfl)) ?_
 with_reducible refine (impl_get.calls kj4 _ _ ((l0.drop ((ji1004) : Int).toNat).take 2) t148 _ ?side1 ?side2 A1023.out).mono ?_
 (case side1 => repeat (first | exact (Kd.C_below HR147.out wB) | (with_reducible refine Kd.C_alloc ?_ _) | (with_reducible refine Kd.C_drewN ?_ _) | (with_reducible refine Kd.C_drew ?_)))
 (case side2 => exact HC147.out)
 rintro e w' ⟨rfl, ⟨nd, rfl⟩⟩
 refine ⟨_, rfl, ?_⟩
 refine hK.out _ _ (((HB.out.cell (World.block_lt_of_cell? w _ hw140_0)).trans hw140_0)) (fun hHeld => ?_)
 clear hK K
 refine norm_ (a' := ?_) ?_ ?_
 rotate_left
 {
 show Act.put _ (some 59) _ = _
 simp only [Act.put, List.setIfInBounds_toArray, List.set_cons_zero, List.set_cons_succ, i64_w, i32_w]
 rfl
 }
 refine one_ (i := 18) (N := some 62) #[true, true, true, true, true, true, true, true, true, true, true, true, true, true, true, true, true, true, true, true, true, false, false, false, false] rfl rfl (one_of HT_.out (by kernel_rfl)) (by decide) (fun K hK => ?_)
 refine goes_ Try.func72 (by kernel_rfl) rfl #[.slice A2008 (((l0.drop ((ji1004) : Int).toNat).take 4).drop 2).length ((c0 - (ji1004).toNat) - 2)] (by rfl) rfl rfl (by (try simp only [List.map_toArray, List.map_cons, List.map_nil]); first | done | (rw [show (((l0.drop ((ji1004) : Int).toNat).take 4).drop 2).length = (4 - 2) from (by rw [List.length_drop, List.length_take]; have h_ : (4 : Int) ≤ ((l0.drop ((ji1004) : Int).toNat).length : Int) := of_decide_eq_true (by first | (with_reducible assumption) | assumption); omega)] <;> rfl) | (simp only [hji1004]; rfl) | rfl | (simp only [List.length_drop, List.length_take]; rfl)) ?_
 with_reducible refine (impl_get.calls kj4 _ _ (((l0.drop ((ji1004) : Int).toNat).take 4).drop 2) t150 _ ?side1 ?side2 A1026.out).mono ?_
 (case side1 => repeat (first | exact (Kd.C_below HR149.out wB) | (with_reducible refine Kd.C_alloc ?_ _) | (with_reducible refine Kd.C_drewN ?_ _) | (with_reducible refine Kd.C_drew ?_)))
 (case side2 => exact HC149.out)
 rintro e w' ⟨rfl, ⟨nd, rfl⟩⟩
 refine ⟨_, rfl, ?_⟩
 refine hK.out _ _ (((HB.out.cell (World.block_lt_of_cell? w _ hw140_0)).trans hw140_0)) (fun hHeld => ?_)
 clear hK K
 refine norm_ (a' := ?_) ?_ ?_
 rotate_left
 {
 show Act.put _ (some 62) _ = _
 simp only [Act.put, List.setIfInBounds_toArray, List.set_cons_zero, List.set_cons_succ, i64_w, i32_w]
 rfl
 }
 refine one_ (i := 21) (N := some 65) #[true, true, true, true, true, true, true, true, true, true, true, true, true, true, true, true, true, true, true, true, true, true, false, false, false] rfl rfl (one_of HT_.out (by kernel_rfl)) (by decide) (fun K hK => ?_)
 refine goes_ Try.func72 (by kernel_rfl) rfl #[.slice A2009 (((l0.drop ((ji1004) : Int).toNat).take 8).drop 4).length ((c0 - (ji1004).toNat) - 4)] (by rfl) rfl rfl (by (try simp only [List.map_toArray, List.map_cons, List.map_nil]); first | done | (rw [show (((l0.drop ((ji1004) : Int).toNat).take 8).drop 4).length = (8 - 4) from (by rw [List.length_drop, List.length_take]; have h_ : (8 : Int) ≤ ((l0.drop ((ji1004) : Int).toNat).length : Int) := of_decide_eq_true (by first | (with_reducible assumption) | assumption); omega)] <;> rfl) | (simp only [hji1004]; rfl) | rfl | (simp only [List.length_drop, List.length_take]; rfl)) ?_
 with_reducible refine (impl_get.calls kj4 _ _ (((l0.drop ((ji1004) : Int).toNat).take 8).drop 4) t152 _ ?side1 ?side2 A1029.out).mono ?_
 (case side1 => repeat (first | exact (Kd.C_below HR151.out wB) | (with_reducible refine Kd.C_alloc ?_ _) | (with_reducible refine Kd.C_drewN ?_ _) | (with_reducible refine Kd.C_drew ?_)))
 (case side2 => exact HC151.out)
 rintro e w' ⟨rfl, ⟨nd, rfl⟩⟩
 refine ⟨_, rfl, ?_⟩
 refine hK.out _ _ (((HB.out.cell (World.block_lt_of_cell? w _ hw140_0)).trans hw140_0)) (fun hHeld => ?_)
 clear hK K
 refine norm_ (a' := ?_) ?_ ?_
 rotate_left
 {
 show Act.put _ (some 65) _ = _
 simp only [Act.put, List.setIfInBounds_toArray, List.set_cons_zero, List.set_cons_succ, i64_w, i32_w]
 rfl
 }
 refine pure_ (i := 22) (N := some 66) (v := ?_) (a' := ?_) #[true, true, true, true, true, true, true, true, true, true, true, true, true, true, true, true, true, true, true, true, true, true, true, false, false] rfl rfl (any_of HT_.out (by kernel_rfl)) (fun _ _ _ h => h) (Or.inl ⟨by rfl, ?_⟩) ?_ ?_
 rotate_left
 {
 intro w'
 go_simp
 with_reducible rfl
 }
 rotate_left
 {
 simp only [Act.put, List.setIfInBounds_toArray, List.set_cons_zero, List.set_cons_succ, i64_w, i32_w]
 rfl
 }
 refine one_ (i := 23) (N := none) #[true, true, true, true, true, true, true, true, true, true, true, true, true, true, true, true, true, true, true, true, true, true, true, true, false] rfl rfl (one_of HT_.out (by kernel_rfl)) (by decide) (fun K hK => ?_)
 have hs2010 : w2003.cell? ⟨gb134, 0, none⟩ = some (.int .i64 0) := (blk_cell BK134.out 0).trans rfl
 have hfs2010 := blk_frozen BK134.out 0
 have hs2011 : w2003.cell? ⟨gb134, 1, none⟩ = some (.int .i64 0) := (blk_cell BK134.out 1).trans rfl
 have hfs2011 := blk_frozen BK134.out 1
 have hs2012 : w2003.cell? ⟨gb134, 2, none⟩ = some (.int .i64 0) := (blk_cell BK134.out 2).trans rfl
 have hfs2012 := blk_frozen BK134.out 2
 have hs2013 : w2003.cell? ⟨gb134, 3, none⟩ = some (.int .i64 0) := (blk_cell BK134.out 3).trans rfl
 have hfs2013 := blk_frozen BK134.out 3
 have hs2014 : w2003.cell? ⟨gb134, 4, none⟩ = some (.int .i64 0) := (blk_cell BK134.out 4).trans rfl
 have hfs2014 := blk_frozen BK134.out 4
 have hs2015 : w2003.cell? ⟨gb134, 5, none⟩ = some (.int .i64 0) := (blk_cell BK134.out 5).trans rfl
 have hfs2015 := blk_frozen BK134.out 5
 have hs2016 : w2003.cell? ⟨gb134, 6, none⟩ = some (.int .i64 0) := (blk_cell BK134.out 6).trans rfl
 have hfs2016 := blk_frozen BK134.out 6
 refine skip_ (w1 := ?_) (by rfl) rfl ?_ ?_
 rotate_left
 {
 go_simp
 rfl
 }
 refine hK.out _ _ (((cell_far (p := ⟨gb134, _, none⟩) (by first | exact Nat.ne_of_lt (Nat.lt_of_lt_of_le (by have := World.block_lt_of_cell? _ _ hw140_0; first | rwa [add_block] at this | exact this) GW134.out) | (rw [add_block]; exact Nat.ne_of_lt (Nat.lt_of_lt_of_le (by have := World.block_lt_of_cell? _ _ hw140_0; first | rwa [add_block] at this | exact this) GW134.out)) | (show (Addr.add _ _).block ≠ _; rw [add_block]; exact Nat.ne_of_lt (Nat.lt_of_lt_of_le (by have := World.block_lt_of_cell? _ _ hw140_0; first | rwa [add_block] at this | exact this) GW134.out)) | (dsimp only; exact Nat.ne_of_lt (Nat.lt_of_lt_of_le (by have := World.block_lt_of_cell? _ _ hw140_0; first | rwa [add_block] at this | exact this) GW134.out))) _).trans (((cell_far (p := ⟨gb134, _, none⟩) (by first | exact Nat.ne_of_lt (Nat.lt_of_lt_of_le (by have := World.block_lt_of_cell? _ _ hw140_0; first | rwa [add_block] at this | exact this) GW134.out) | (rw [add_block]; exact Nat.ne_of_lt (Nat.lt_of_lt_of_le (by have := World.block_lt_of_cell? _ _ hw140_0; first | rwa [add_block] at this | exact this) GW134.out)) | (show (Addr.add _ _).block ≠ _; rw [add_block]; exact Nat.ne_of_lt (Nat.lt_of_lt_of_le (by have := World.block_lt_of_cell? _ _ hw140_0; first | rwa [add_block] at this | exact this) GW134.out)) | (dsimp only; exact Nat.ne_of_lt (Nat.lt_of_lt_of_le (by have := World.block_lt_of_cell? _ _ hw140_0; first | rwa [add_block] at this | exact this) GW134.out))) _).trans (((cell_far (p := ⟨gb134, _, none⟩) (by first | exact Nat.ne_of_lt (Nat.lt_of_lt_of_le (by have := World.block_lt_of_cell? _ _ hw140_0; first | rwa [add_block] at this | exact this) GW134.out) | (rw [add_block]; exact Nat.ne_of_lt (Nat.lt_of_lt_of_le (by have := World.block_lt_of_cell? _ _ hw140_0; first | rwa [add_block] at this | exact this) GW134.out)) | (show (Addr.add _ _).block ≠ _; rw [add_block]; exact Nat.ne_of_lt (Nat.lt_of_lt_of_le (by have := World.block_lt_of_cell? _ _ hw140_0; first | rwa [add_block] at this | exact this) GW134.out)) | (dsimp only; exact Nat.ne_of_lt (Nat.lt_of_lt_of_le (by have := World.block_lt_of_cell? _ _ hw140_0; first | rwa [add_block] at this | exact this) GW134.out))) _).trans (((cell_far (p := ⟨gb134, _, none⟩) (by first | exact Nat.ne_of_lt (Nat.lt_of_lt_of_le (by have := World.block_lt_of_cell? _ _ hw140_0; first | rwa [add_block] at this | exact this) GW134.out) | (rw [add_block]; exact Nat.ne_of_lt (Nat.lt_of_lt_of_le (by have := World.block_lt_of_cell? _ _ hw140_0; first | rwa [add_block] at this | exact this) GW134.out)) | (show (Addr.add _ _).block ≠ _; rw [add_block]; exact Nat.ne_of_lt (Nat.lt_of_lt_of_le (by have := World.block_lt_of_cell? _ _ hw140_0; first | rwa [add_block] at this | exact this) GW134.out)) | (dsimp only; exact Nat.ne_of_lt (Nat.lt_of_lt_of_le (by have := World.block_lt_of_cell? _ _ hw140_0; first | rwa [add_block] at this | exact this) GW134.out))) _).trans (((cell_far (p := ⟨gb134, _, none⟩) (by first | exact Nat.ne_of_lt (Nat.lt_of_lt_of_le (by have := World.block_lt_of_cell? _ _ hw140_0; first | rwa [add_block] at this | exact this) GW134.out) | (rw [add_block]; exact Nat.ne_of_lt (Nat.lt_of_lt_of_le (by have := World.block_lt_of_cell? _ _ hw140_0; first | rwa [add_block] at this | exact this) GW134.out)) | (show (Addr.add _ _).block ≠ _; rw [add_block]; exact Nat.ne_of_lt (Nat.lt_of_lt_of_le (by have := World.block_lt_of_cell? _ _ hw140_0; first | rwa [add_block] at this | exact this) GW134.out)) | (dsimp only; exact Nat.ne_of_lt (Nat.lt_of_lt_of_le (by have := World.block_lt_of_cell? _ _ hw140_0; first | rwa [add_block] at this | exact this) GW134.out))) _).trans (((cell_far (p := ⟨gb134, _, none⟩) (by first | exact Nat.ne_of_lt (Nat.lt_of_lt_of_le (by have := World.block_lt_of_cell? _ _ hw140_0; first | rwa [add_block] at this | exact this) GW134.out) | (rw [add_block]; exact Nat.ne_of_lt (Nat.lt_of_lt_of_le (by have := World.block_lt_of_cell? _ _ hw140_0; first | rwa [add_block] at this | exact this) GW134.out)) | (show (Addr.add _ _).block ≠ _; rw [add_block]; exact Nat.ne_of_lt (Nat.lt_of_lt_of_le (by have := World.block_lt_of_cell? _ _ hw140_0; first | rwa [add_block] at this | exact this) GW134.out)) | (dsimp only; exact Nat.ne_of_lt (Nat.lt_of_lt_of_le (by have := World.block_lt_of_cell? _ _ hw140_0; first | rwa [add_block] at this | exact this) GW134.out))) _).trans (((cell_far (p := ⟨gb134, _, none⟩) (by first | exact Nat.ne_of_lt (Nat.lt_of_lt_of_le (by have := World.block_lt_of_cell? _ _ hw140_0; first | rwa [add_block] at this | exact this) GW134.out) | (rw [add_block]; exact Nat.ne_of_lt (Nat.lt_of_lt_of_le (by have := World.block_lt_of_cell? _ _ hw140_0; first | rwa [add_block] at this | exact this) GW134.out)) | (show (Addr.add _ _).block ≠ _; rw [add_block]; exact Nat.ne_of_lt (Nat.lt_of_lt_of_le (by have := World.block_lt_of_cell? _ _ hw140_0; first | rwa [add_block] at this | exact this) GW134.out)) | (dsimp only; exact Nat.ne_of_lt (Nat.lt_of_lt_of_le (by have := World.block_lt_of_cell? _ _ hw140_0; first | rwa [add_block] at this | exact this) GW134.out))) _).trans (hHeld))))))))))))))) (fun hHeld => ?_)
 clear hK K
 refine pure_ (i := 24) (N := some 3) (v := ?_) (a' := ?_) #[true, true, true, true, true, true, true, true, true, true, true, true, true, true, true, true, true, true, true, true, true, true, true, true, true] rfl rfl (any_of HT_.out (by kernel_rfl)) (fun _ _ _ h => h) (Or.inl ⟨by rfl, ?_⟩) ?_ ?_
 rotate_left
 {
 intro w'
 go_simp
 with_reducible rfl
 }
 rotate_left
 {
 simp only [Act.put, List.setIfInBounds_toArray, List.set_cons_zero, List.set_cons_succ, i64_w, i32_w]
 rfl
 }
 refine done_ (done_of HT_.out (by kernel_rfl)) ?_
 try go_wp2
 refine bodyPost_ret (results_ct rfl _ _ gb134 38 #[.int .i64 (wrap64 (rd l0 9)), .int .i64 t142, .int .i64 t144, .int .i64 t146, .int .i64 t148, .int .i64 t150, .int .i64 t152] (0, 0) _ rfl (by (with_reducible repeat (first | refine blk_drewN ?_ _ | refine blk_drew ?_ | refine blk_alloc ?_ _)); refine blk_put (cs := #[.int .i64 (wrap64 (rd l0 9)), .int .i64 t142, .int .i64 t144, .int .i64 t146, .int .i64 t148, .int .i64 t150, .int .i64 0]) ?_ 6 _ rfl; (with_reducible repeat (first | refine blk_drewN ?_ _ | refine blk_drew ?_ | refine blk_alloc ?_ _)); refine blk_put (cs := #[.int .i64 (wrap64 (rd l0 9)), .int .i64 t142, .int .i64 t144, .int .i64 t146, .int .i64 t148, .int .i64 0, .int .i64 0]) ?_ 5 _ rfl; (with_reducible repeat (first | refine blk_drewN ?_ _ | refine blk_drew ?_ | refine blk_alloc ?_ _)); refine blk_put (cs := #[.int .i64 (wrap64 (rd l0 9)), .int .i64 t142, .int .i64 t144, .int .i64 t146, .int .i64 0, .int .i64 0, .int .i64 0]) ?_ 4 _ rfl; (with_reducible repeat (first | refine blk_drewN ?_ _ | refine blk_drew ?_ | refine blk_alloc ?_ _)); refine blk_put (cs := #[.int .i64 (wrap64 (rd l0 9)), .int .i64 t142, .int .i64 t144, .int .i64 0, .int .i64 0, .int .i64 0, .int .i64 0]) ?_ 3 _ rfl; (with_reducible repeat (first | refine blk_drewN ?_ _ | refine blk_drew ?_ | refine blk_alloc ?_ _)); refine blk_put (cs := #[.int .i64 (wrap64 (rd l0 9)), .int .i64 t142, .int .i64 0, .int .i64 0, .int .i64 0, .int .i64 0, .int .i64 0]) ?_ 2 _ rfl; (with_reducible repeat (first | refine blk_drewN ?_ _ | refine blk_drew ?_ | refine blk_alloc ?_ _)); refine blk_put (cs := #[.int .i64 (wrap64 (rd l0 9)), .int .i64 0, .int .i64 0, .int .i64 0, .int .i64 0, .int .i64 0, .int .i64 0]) ?_ 1 _ rfl; (with_reducible repeat (first | refine blk_drewN ?_ _ | refine blk_drew ?_ | refine blk_alloc ?_ _)); refine blk_put (cs := #[.int .i64 0, .int .i64 0, .int .i64 0, .int .i64 0, .int .i64 0, .int .i64 0, .int .i64 0]) ?_ 0 _ rfl; (with_reducible repeat (first | refine blk_drewN ?_ _ | refine blk_drew ?_ | refine blk_alloc ?_ _)); exact BK134.out) Try.underlying38 rfl (by kernel_rfl)) rfl ?_
 exact ⟨by first | rfl | (simp [errW_none, errW_some] <;> rfl) | (simp only [← hji1004]; first | rfl | (simp [errW_none, errW_some] <;> rfl)) | (simp [*, errW_none, errW_some] <;> rfl), wB⟩
 }
 {
 go_wp2_with (first | ((with_reducible refine gate_callee (f := 71) rfl ?_); refine goesL_ (some 34) rfl rfl Try.func71 (by kernel_rfl) rfl #[.slice (some ad135) (l0.take ((ji1004) : Int).toNat).length c0] rfl (by (try simp only [List.map_toArray, List.map_cons, List.map_nil]); first | done | (rw [show (l0.take ((ji1004) : Int).toNat).length = (ji1004).toNat from (by rw [List.length_take]; have h_ : ((ji1004) : Int) ≤ (l0.length : Int) := of_decide_eq_true (by first | (with_reducible assumption) | assumption); omega)] <;> rfl) | (simp only [hji1004]; rfl) | rfl | (simp only [List.length_drop, List.length_take]; rfl)) ?_; (with_reducible refine (impl_Checksum.calls kj4 _ _ (l0.take ((ji1004) : Int).toNat) t138 _ ?side1 ?side2 A1007.out).mono ?_); (case side1 => exact Kd.C_below HR137.out wB); (case side2 => exact HC137.out); rintro e w' ⟨rfl, ⟨nd, rfl⟩⟩; refine ⟨_, rfl, ?_⟩; (try (rw [drewN_self wc]; generalize hq_ : World.drewN wc _ = wc; have n0_ := Aside0.mk (blk_at hq_ BK134.out); have n1_ := Aside0.mk (below_at hq_ HB.out); clear hq_ BK134 HB; have BK134 := n0_; have HB := n1_; clear n0_ n1_; (try (obtain ⟨⟨hcyBK134_0, hcyBK134_1, hcyBK134_2, hcyBK134_3, hcyBK134_4, hcyBK134_5, hcyBK134_6⟩, hfyBK134_0, hfyBK134_1, hfyBK134_2, hfyBK134_3, hfyBK134_4, hfyBK134_5, hfyBK134_6⟩ := cells7 BK134.out)))); obtain ⟨⟨hcz2002_0, hcz2002_1, hcz2002_2, hcz2002_3, hcz2002_4, hcz2002_5, hcz2002_6⟩, hfz2002_0, hfz2002_1, hfz2002_2, hfz2002_3, hfz2002_4, hfz2002_5, hfz2002_6⟩ := cells7 BK134.out) | ((with_reducible refine gate_store (t := 38) (p := 2) rfl ?_); (try (rw [drewN_self wc]; generalize hq_ : World.drewN wc _ = wc; have n0_ := Aside0.mk (blk_at hq_ BK134.out); have n1_ := Aside0.mk (below_at hq_ HB.out); clear hq_ BK134 HB; have BK134 := n0_; have HB := n1_; clear n0_ n1_; (try (obtain ⟨⟨hcyBK134_0, hcyBK134_1, hcyBK134_2, hcyBK134_3, hcyBK134_4, hcyBK134_5, hcyBK134_6⟩, hfyBK134_0, hfyBK134_1, hfyBK134_2, hfyBK134_3, hfyBK134_4, hfyBK134_5, hfyBK134_6⟩ := cells7 BK134.out)))); refine store_event (t := 38) (p := 2) (v := ?_) (w1 := (((((((wc.setCell ⟨gb134, 0, none⟩ (.int .i64 0)).setCell ⟨gb134, 1, none⟩ (.int .i64 0)).setCell ⟨gb134, 2, none⟩ (.int .i64 0)).setCell ⟨gb134, 3, none⟩ (.int .i64 0)).setCell ⟨gb134, 4, none⟩ (.int .i64 0)).setCell ⟨gb134, 5, none⟩ (.int .i64 0)).setCell ⟨gb134, 6, none⟩ (.int .i64 0))) ?hg ?ho ?hn ?hr ?_; (case ho => rfl); (case hg => rfl); (case hn => rfl); (case hr => first | (go_simp; done) | (go_simp; rfl)); intro w2003 hw; have n0_ : Aside0 (w2003.heap[gb134]? = some (.cells #[.int .i64 0, .int .i64 0, .int .i64 0, .int .i64 0, .int .i64 0, .int .i64 0, .int .i64 0] 38 (0, 0))) := ⟨(by rw [hw]; exact (by (with_reducible repeat (first | refine blk_drewN ?_ _ | refine blk_drew ?_ | refine blk_alloc ?_ _)); refine blk_put (cs := #[.int .i64 0, .int .i64 0, .int .i64 0, .int .i64 0, .int .i64 0, .int .i64 0, .int .i64 0]) ?_ 6 _ rfl; (with_reducible repeat (first | refine blk_drewN ?_ _ | refine blk_drew ?_ | refine blk_alloc ?_ _)); refine blk_put (cs := #[.int .i64 0, .int .i64 0, .int .i64 0, .int .i64 0, .int .i64 0, .int .i64 0, .int .i64 0]) ?_ 5 _ rfl; (with_reducible repeat (first | refine blk_drewN ?_ _ | refine blk_drew ?_ | refine blk_alloc ?_ _)); refine blk_put (cs := #[.int .i64 0, .int .i64 0, .int .i64 0, .int .i64 0, .int .i64 0, .int .i64 0, .int .i64 0]) ?_ 4 _ rfl; (with_reducible repeat (first | refine blk_drewN ?_ _ | refine blk_drew ?_ | refine blk_alloc ?_ _)); refine blk_put (cs := #[.int .i64 0, .int .i64 0, .int .i64 0, .int .i64 0, .int .i64 0, .int .i64 0, .int .i64 0]) ?_ 3 _ rfl; (with_reducible repeat (first | refine blk_drewN ?_ _ | refine blk_drew ?_ | refine blk_alloc ?_ _)); refine blk_put (cs := #[.int .i64 0, .int .i64 0, .int .i64 0, .int .i64 0, .int .i64 0, .int .i64 0, .int .i64 0]) ?_ 2 _ rfl; (with_reducible repeat (first | refine blk_drewN ?_ _ | refine blk_drew ?_ | refine blk_alloc ?_ _)); refine blk_put (cs := #[.int .i64 0, .int .i64 0, .int .i64 0, .int .i64 0, .int .i64 0, .int .i64 0, .int .i64 0]) ?_ 1 _ rfl; (with_reducible repeat (first | refine blk_drewN ?_ _ | refine blk_drew ?_ | refine blk_alloc ?_ _)); refine blk_put (cs := #[.int .i64 0, .int .i64 0, .int .i64 0, .int .i64 0, .int .i64 0, .int .i64 0, .int .i64 0]) ?_ 0 _ rfl; (with_reducible repeat (first | refine blk_drewN ?_ _ | refine blk_drew ?_ | refine blk_alloc ?_ _)); exact BK134.out))⟩; have n1_ : Aside0 (Below w.heap.size w w2003) := ⟨(by rw [hw]; exact wB)⟩; clear hw; clear BK134; clear HB; have BK134 := n0_; have HB := n1_; clear n0_ n1_))
 refine bodyPost_ret (results_ct rfl _ _ gb134 38 #[.int .i64 0, .int .i64 0, .int .i64 0, .int .i64 0, .int .i64 0, .int .i64 0, .int .i64 0] (0, 0) _ rfl (Bh BK134) Try.underlying38 rfl (by kernel_rfl)) rfl ?_
 exact ⟨by first | rfl | (simp [errW_none, errW_some] <;> rfl) | (simp only [← hji1004]; first | rfl | (simp [errW_none, errW_some] <;> rfl)) | (simp [*, errW_none, errW_some] <;> rfl), wB⟩
 }
 }
 )
 }
 {
 rw [if_neg c4] at H
 have c4b0 : (((rd l0 0) / 16) == 4) = false := beq_eq_false_iff_ne.mpr c4
 have c4b1 : (((rd l0 0) / 16) != 4) = true := bne_iff_ne.mpr c4
 simp only [Option.some.injEq, Prod.mk.injEq] at H
 obtain ⟨rfl, rfl, rfl, rfl, rfl, rfl, rfl, rfl⟩ := H
 go_enter Try.func20, Try.ntmps20
 go_wp2_with (first | ((with_reducible refine gate_dst (N := 2) rfl ?_); (try (refine gate_guard (by rfl) ?_; dsimp only)); refine box_event ?hg (N := 2) ?hd (cs := #[.int .i64 0, .int .i64 0, .int .i64 0, .int .i64 0, .int .i64 0, .int .i64 0, .int .i64 0]) (t := 38) ?hr ?_; (case hd => rfl); (case hg => rfl); (case hr => first | (go_simp; done) | (go_simp; rfl)); intro gb134 hg w1001 hbox hb; have n0_ := Aside0.mk (below_step wB hb); have n1_ := Aside0.mk (hbox); have n2_ := Aside0.mk ((by rw [hg]; exact (below_size wB) : w.heap.size ≤ gb134)); have n3_ := Aside0.mk ((by rw [hg]; exact (below_size wB) : w.heap.size ≤ gb134)); clear HB; have HB := n0_; have BK134 := n1_; have GW134 := n2_; have GE134 := n3_; clear n0_ n1_ n2_ n3_; clear hb hbox hg; have p135 : 0 ≤ (0 : Int) := (by omega); have q135 : 0 < (l0.length : Int) := of_decide_eq_true (by first | (with_reducible assumption) | assumption); obtain ⟨ad135, e135, hx135_0⟩ := Kd.at_int HR0.out 0 p135 q135; cases e135; have qi135 : (0 < l0.length) = True := eq_true (by omega); (try rw [show ((0 : Int)).toNat = 0 from rfl] at hx135_0); (try rw [Addr.add_zero'] at hx135_0); replace hx135_0 := (HB.out.cell (World.block_lt_of_cell? w _ hx135_0)).trans hx135_0; replace p135 := eq_true p135; replace q135 := eq_true q135; obtain ⟨⟨hcz1002_0, hcz1002_1, hcz1002_2, hcz1002_3, hcz1002_4, hcz1002_5, hcz1002_6⟩, hfz1002_0, hfz1002_1, hfz1002_2, hfz1002_3, hfz1002_4, hfz1002_5, hfz1002_6⟩ := cells7 BK134.out) | ((with_reducible refine gate_store (t := 38) (p := 2) rfl ?_); (try (rw [drewN_self w1001]; generalize hq_ : World.drewN w1001 _ = w1001; have n0_ := Aside0.mk (blk_at hq_ BK134.out); have n1_ := Aside0.mk (below_at hq_ HB.out); clear hq_ BK134 HB; have BK134 := n0_; have HB := n1_; clear n0_ n1_; (try (obtain ⟨⟨hcyBK134_0, hcyBK134_1, hcyBK134_2, hcyBK134_3, hcyBK134_4, hcyBK134_5, hcyBK134_6⟩, hfyBK134_0, hfyBK134_1, hfyBK134_2, hfyBK134_3, hfyBK134_4, hfyBK134_5, hfyBK134_6⟩ := cells7 BK134.out)))); refine store_event (t := 38) (p := 2) (v := ?_) (w1 := (((((((w1001.setCell ⟨gb134, 0, none⟩ (.int .i64 0)).setCell ⟨gb134, 1, none⟩ (.int .i64 0)).setCell ⟨gb134, 2, none⟩ (.int .i64 0)).setCell ⟨gb134, 3, none⟩ (.int .i64 0)).setCell ⟨gb134, 4, none⟩ (.int .i64 0)).setCell ⟨gb134, 5, none⟩ (.int .i64 0)).setCell ⟨gb134, 6, none⟩ (.int .i64 0))) ?hg ?ho ?hn ?hr ?_; (case ho => rfl); (case hg => rfl); (case hn => rfl); (case hr => first | (go_simp; done) | (go_simp; rfl)); intro w1003 hw; have n0_ : Aside0 (w1003.heap[gb134]? = some (.cells #[.int .i64 0, .int .i64 0, .int .i64 0, .int .i64 0, .int .i64 0, .int .i64 0, .int .i64 0] 38 (0, 0))) := ⟨(by rw [hw]; exact (by (with_reducible repeat (first | refine blk_drewN ?_ _ | refine blk_drew ?_ | refine blk_alloc ?_ _)); refine blk_put (cs := #[.int .i64 0, .int .i64 0, .int .i64 0, .int .i64 0, .int .i64 0, .int .i64 0, .int .i64 0]) ?_ 6 _ rfl; (with_reducible repeat (first | refine blk_drewN ?_ _ | refine blk_drew ?_ | refine blk_alloc ?_ _)); refine blk_put (cs := #[.int .i64 0, .int .i64 0, .int .i64 0, .int .i64 0, .int .i64 0, .int .i64 0, .int .i64 0]) ?_ 5 _ rfl; (with_reducible repeat (first | refine blk_drewN ?_ _ | refine blk_drew ?_ | refine blk_alloc ?_ _)); refine blk_put (cs := #[.int .i64 0, .int .i64 0, .int .i64 0, .int .i64 0, .int .i64 0, .int .i64 0, .int .i64 0]) ?_ 4 _ rfl; (with_reducible repeat (first | refine blk_drewN ?_ _ | refine blk_drew ?_ | refine blk_alloc ?_ _)); refine blk_put (cs := #[.int .i64 0, .int .i64 0, .int .i64 0, .int .i64 0, .int .i64 0, .int .i64 0, .int .i64 0]) ?_ 3 _ rfl; (with_reducible repeat (first | refine blk_drewN ?_ _ | refine blk_drew ?_ | refine blk_alloc ?_ _)); refine blk_put (cs := #[.int .i64 0, .int .i64 0, .int .i64 0, .int .i64 0, .int .i64 0, .int .i64 0, .int .i64 0]) ?_ 2 _ rfl; (with_reducible repeat (first | refine blk_drewN ?_ _ | refine blk_drew ?_ | refine blk_alloc ?_ _)); refine blk_put (cs := #[.int .i64 0, .int .i64 0, .int .i64 0, .int .i64 0, .int .i64 0, .int .i64 0, .int .i64 0]) ?_ 1 _ rfl; (with_reducible repeat (first | refine blk_drewN ?_ _ | refine blk_drew ?_ | refine blk_alloc ?_ _)); refine blk_put (cs := #[.int .i64 0, .int .i64 0, .int .i64 0, .int .i64 0, .int .i64 0, .int .i64 0, .int .i64 0]) ?_ 0 _ rfl; (with_reducible repeat (first | refine blk_drewN ?_ _ | refine blk_drew ?_ | refine blk_alloc ?_ _)); exact BK134.out))⟩; have n1_ : Aside0 (Below w.heap.size w w1003) := ⟨(by rw [hw]; exact wB)⟩; clear hw; clear BK134; clear HB; have BK134 := n0_; have HB := n1_; clear n0_ n1_))
 refine bodyPost_ret (results_ct rfl _ _ gb134 38 #[.int .i64 0, .int .i64 0, .int .i64 0, .int .i64 0, .int .i64 0, .int .i64 0, .int .i64 0] (0, 0) _ rfl (Bh BK134) Try.underlying38 rfl (by kernel_rfl)) rfl ?_
 exact ⟨by first | rfl | (simp [errW_none, errW_some] <;> rfl) | (simp [*, errW_none, errW_some] <;> rfl), wB⟩
 }
 }
 {
 rw [if_neg c3] at H
 exact absurd H (by simp)
 }
 }

/-! ### laws_eqQuote: function 21 -/
def laws_eqQuote.f (a0_0 : Int) (a0_1 : Int) (a0_2 : Int) (a0_3 : Int) (a0_4 : Int) (a0_5 : Int) (a0_6 : Int) (a1_0 : Int) (a1_1 : Int) (a1_2 : Int) (a1_3 : Int) (a1_4 : Int) (a1_5 : Int) (a1_6 : Int) : Option (Bool) := if a0_0 = a1_0 then (if a0_1 = a1_1 then (if a0_2 = a1_2 then (if a0_3 = a1_3 then (if a0_4 = a1_4 then (if a0_5 = a1_5 then (if a0_6 = a1_6 then (some true) else (some false)) else (some false)) else (some false)) else (some false)) else (some false)) else (some false)) else (some false)
set_option maxHeartbeats 60000000 in
set_option maxRecDepth 100000 in
theorem laws_eqQuote.calls (a0_0 : Int) (a0_1 : Int) (a0_2 : Int) (a0_3 : Int) (a0_4 : Int) (a0_5 : Int) (a0_6 : Int) (a1_0 : Int) (a1_1 : Int) (a1_2 : Int) (a1_3 : Int) (a1_4 : Int) (a1_5 : Int) (a1_6 : Int) (r : Bool) (w : World) (h : laws_eqQuote.f a0_0 a0_1 a0_2 a0_3 a0_4 a0_5 a0_6 a1_0 a1_1 a1_2 a1_3 a1_4 a1_5 a1_6 = some r) :
 Calls Try.prog 21 #[.agg #[.int .i64 a0_0, .int .i64 a0_1, .int .i64 a0_2, .int .i64 a0_3, .int .i64 a0_4, .int .i64 a0_5, .int .i64 a0_6], .agg #[.int .i64 a1_0, .int .i64 a1_1, .int .i64 a1_2, .int .i64 a1_3, .int .i64 a1_4, .int .i64 a1_5, .int .i64 a1_6]] w fun e w' => e = .returned (.bool r) ∧ Below w.heap.size w w' := by
 have hu38 := Try.underlying38
 have HB := Aside0.mk (Below.refl w.heap.size w)
 have H : (if a0_0 = a1_0 then (if a0_1 = a1_1 then (if a0_2 = a1_2 then (if a0_3 = a1_3 then (if a0_4 = a1_4 then (if a0_5 = a1_5 then (if a0_6 = a1_6 then (some true) else (some false)) else (some false)) else (some false)) else (some false)) else (some false)) else (some false)) else (some false)) = some r := h
 clear h
 by_cases c3 : a0_0 = a1_0
 rw [if_pos c3] at H
 have c3b0 : (a0_0 == a1_0) = true := beq_iff_eq.mpr c3
 have c3b1 : (a0_0 != a1_0) = false := bne_eq_false_iff_eq.mpr c3
 clear c3
 by_cases c4 : a0_1 = a1_1
 rw [if_pos c4] at H
 have c4b0 : (a0_1 == a1_1) = true := beq_iff_eq.mpr c4
 have c4b1 : (a0_1 != a1_1) = false := bne_eq_false_iff_eq.mpr c4
 clear c4
 by_cases c5 : a0_2 = a1_2
 rw [if_pos c5] at H
 have c5b0 : (a0_2 == a1_2) = true := beq_iff_eq.mpr c5
 have c5b1 : (a0_2 != a1_2) = false := bne_eq_false_iff_eq.mpr c5
 clear c5
 by_cases c6 : a0_3 = a1_3
 rw [if_pos c6] at H
 have c6b0 : (a0_3 == a1_3) = true := beq_iff_eq.mpr c6
 have c6b1 : (a0_3 != a1_3) = false := bne_eq_false_iff_eq.mpr c6
 clear c6
 by_cases c7 : a0_4 = a1_4
 rw [if_pos c7] at H
 have c7b0 : (a0_4 == a1_4) = true := beq_iff_eq.mpr c7
 have c7b1 : (a0_4 != a1_4) = false := bne_eq_false_iff_eq.mpr c7
 clear c7
 by_cases c8 : a0_5 = a1_5
 rw [if_pos c8] at H
 have c8b0 : (a0_5 == a1_5) = true := beq_iff_eq.mpr c8
 have c8b1 : (a0_5 != a1_5) = false := bne_eq_false_iff_eq.mpr c8
 clear c8
 by_cases c9 : a0_6 = a1_6
 rw [if_pos c9] at H
 have c9b0 : (a0_6 == a1_6) = true := beq_iff_eq.mpr c9
 have c9b1 : (a0_6 != a1_6) = false := bne_eq_false_iff_eq.mpr c9
 clear c9
 obtain rfl := Option.some.inj H
 rotate_left
 rw [if_neg c9] at H
 have c9b0 : (a0_6 == a1_6) = false := beq_eq_false_iff_ne.mpr c9
 have c9b1 : (a0_6 != a1_6) = true := bne_iff_ne.mpr c9
 obtain rfl := Option.some.inj H
 rotate_left
 rw [if_neg c8] at H
 have c8b0 : (a0_5 == a1_5) = false := beq_eq_false_iff_ne.mpr c8
 have c8b1 : (a0_5 != a1_5) = true := bne_iff_ne.mpr c8
 obtain rfl := Option.some.inj H
 rotate_left
 rw [if_neg c7] at H
 have c7b0 : (a0_4 == a1_4) = false := beq_eq_false_iff_ne.mpr c7
 have c7b1 : (a0_4 != a1_4) = true := bne_iff_ne.mpr c7
 obtain rfl := Option.some.inj H
 rotate_left
 rw [if_neg c6] at H
 have c6b0 : (a0_3 == a1_3) = false := beq_eq_false_iff_ne.mpr c6
 have c6b1 : (a0_3 != a1_3) = true := bne_iff_ne.mpr c6
 obtain rfl := Option.some.inj H
 rotate_left
 rw [if_neg c5] at H
 have c5b0 : (a0_2 == a1_2) = false := beq_eq_false_iff_ne.mpr c5
 have c5b1 : (a0_2 != a1_2) = true := bne_iff_ne.mpr c5
 obtain rfl := Option.some.inj H
 rotate_left
 rw [if_neg c4] at H
 have c4b0 : (a0_1 == a1_1) = false := beq_eq_false_iff_ne.mpr c4
 have c4b1 : (a0_1 != a1_1) = true := bne_iff_ne.mpr c4
 obtain rfl := Option.some.inj H
 rotate_left
 rw [if_neg c3] at H
 have c3b0 : (a0_0 == a1_0) = false := beq_eq_false_iff_ne.mpr c3
 have c3b1 : (a0_0 != a1_0) = true := bne_iff_ne.mpr c3
 obtain rfl := Option.some.inj H
 rotate_left
 all_goals (
 go_enter Try.func21, Try.ntmps21
 go_wp2_with (first | ((with_reducible refine gate_dst (N := 2) rfl ?_); refine box_event ?hg (N := 2) ?hd (cs := #[.int .i64 a0_0, .int .i64 a0_1, .int .i64 a0_2, .int .i64 a0_3, .int .i64 a0_4, .int .i64 a0_5, .int .i64 a0_6]) (t := 38) ?hr ?_; (case hd => rfl); (case hg => rfl); (case hr => first | (go_simp; done) | (go_simp; rfl)); intro gb153 hg w1001 hbox hb; have n0_ := Aside0.mk (below_step wB hb); have n1_ := Aside0.mk (hbox); have n2_ := Aside0.mk ((by rw [hg]; exact (below_size wB) : w.heap.size ≤ gb153)); have n3_ := Aside0.mk ((by rw [hg]; exact (below_size wB) : w.heap.size ≤ gb153)); clear HB; have HB := n0_; have BK153 := n1_; have GW153 := n2_; have GE153 := n3_; clear n0_ n1_ n2_ n3_; clear hb hbox hg) | ((with_reducible refine gate_dst (N := 3) rfl ?_); refine box_event ?hg (N := 3) ?hd (cs := #[.int .i64 a1_0, .int .i64 a1_1, .int .i64 a1_2, .int .i64 a1_3, .int .i64 a1_4, .int .i64 a1_5, .int .i64 a1_6]) (t := 38) ?hr ?_; (case hd => rfl); (case hg => rfl); (case hr => first | (go_simp; done) | (go_simp; rfl)); intro gb154 hg w1002 hbox hb; have n0_ := Aside0.mk (blk_below (Bh BK153) hb); have n1_ := Aside0.mk (below_step wB hb); have n2_ := Aside0.mk (hbox); have n3_ := Aside0.mk ((by rw [hg]; exact (below_size wB) : w.heap.size ≤ gb154)); have n4_ := Aside0.mk ((by rw [hg]; exact (below_size wB) : w.heap.size ≤ gb154)); have n5_ := Aside0.mk ((by rw [hg]; exact Nat.ne_of_lt (blk_lt (Bh BK153)) : gb153 ≠ gb154)); have n6_ := Aside0.mk ((by rw [hg]; exact Nat.ne_of_gt (blk_lt (Bh BK153)) : gb154 ≠ gb153)); clear BK153; clear HB; have BK153 := n0_; have HB := n1_; have BK154 := n2_; have GW154 := n3_; have GE154 := n4_; have NB153_154 := n5_; have NB154_153 := n6_; clear n0_ n1_ n2_ n3_ n4_ n5_ n6_; clear hb hbox hg; have hnb1003 := NB153_154.out; have hnc1003 := NB154_153.out; obtain ⟨⟨hcz1004_0, hcz1004_1, hcz1004_2, hcz1004_3, hcz1004_4, hcz1004_5, hcz1004_6⟩, hfz1004_0, hfz1004_1, hfz1004_2, hfz1004_3, hfz1004_4, hfz1004_5, hfz1004_6⟩ := cells7 BK153.out; obtain ⟨⟨hcz1005_0, hcz1005_1, hcz1005_2, hcz1005_3, hcz1005_4, hcz1005_5, hcz1005_6⟩, hfz1005_0, hfz1005_1, hfz1005_2, hfz1005_3, hfz1005_4, hfz1005_5, hfz1005_6⟩ := cells7 BK154.out))
 go_ret
 exact ⟨by first | rfl | (simp [errW_none, errW_some] <;> rfl) | (simp [*, errW_none, errW_some] <;> rfl), wB⟩
 )

end Go.Proofs.Ytkfbcmbemihbnaa.PFnExactReadQuote
