-- Written for this claim by a program of this session (wip/mkprint.py: the print, turned at a few places). Not trusted: Lean checks it.
import Derived.Test.YtkfbcmbemihbnaaPFnExactDecodeIPx0
import Derived.Test.YtkfbcmbemihbnaaPFnExactDecodeIPx4
namespace Go.Proofs.Ytkfbcmbemihbnaa.PFnExactDecodeIP
open Go.RowKit Go.Proofs.YtkfbcmbemihbnaaW.PrintWords Go.Proofs.YtkfbcmbemihbnaaW.PrintLast Go.Proofs.YtkfbcmbemihbnaaW.PrintMore
attribute [local go_sem] max2_int min2_int max_two min_two max_three min_three max_four min_four   -- for this text's walks alone
set_option linter.unusedVariables false
set_option linter.unusedSimpArgs false

/-! ### impl_DecodeIP: function 31 -/
mutual
def impl_DecodeIP.j0 : Nat → List Int → Int → Bool → Int → Int → Bool → Bool → Int → Int → Int → Int → Int → Option (Int × Int × Bool × Bool × Int × Int × Int × Int × Int × List Int × List Int × Int)
  | 0, _, _, _, _, _, _, _, _, _, _, _, _ => none
  | k + 1, x0, x5, x32, x156000, x156001, x156002, x156003, x156004, x156005, x156006, x156007, x156008 => if x32 = true then (some (x156000, x156001, x156002, x156003, x156004, x156005, x156006, x156007, x156008, ([] : List Int), ([] : List Int), 5)) else (if 0 ≤ x5 then (if x5 ≤ (x0.length : Int) then ((impl_Checksum.f k (x0.take (x5 : Int).toNat)).bind fun t159 => (if t159 = 0 then (if 2 ≤ 4 then (if 4 ≤ (x0.length : Int) then ((impl_get.f k ((x0.take 4).drop 2)).bind fun t161 => (if t161 < x5 then (impl_DecodeIP.j1 k x0 x5 t161 true x156000 x156001 x156002 x156003 x156004 x156005 x156006 x156007 x156008) else (impl_DecodeIP.j1 k x0 x5 t161 (decide (t161 > (x0.length : Int))) x156000 x156001 x156002 x156003 x156004 x156005 x156006 x156007 x156008))) else (none)) else (none)) else (some (x156000, x156001, x156002, x156003, x156004, x156005, x156006, x156007, x156008, ([] : List Int), ([] : List Int), 3)))) else (none)) else (none))
def impl_DecodeIP.j1 : Nat → List Int → Int → Int → Bool → Int → Int → Bool → Bool → Int → Int → Int → Int → Int → Option (Int × Int × Bool × Bool × Int × Int × Int × Int × Int × List Int × List Int × Int)
  | 0, _, _, _, _, _, _, _, _, _, _, _, _, _ => none
  | k + 1, x0, x5, x6, x51, x156000, x156001, x156002, x156003, x156004, x156005, x156006, x156007, x156008 => if x51 = true then (some (x156000, x156001, x156002, x156003, x156004, x156005, x156006, x156007, x156008, ([] : List Int), ([] : List Int), 5)) else (if 6 ≤ 8 then (if 8 ≤ (x0.length : Int) then ((impl_get.f k ((x0.take 8).drop 6)).bind fun t163 => (if 1 < (x0.length : Int) then (if 4 ≤ 6 then (if 6 ≤ (x0.length : Int) then ((impl_get.f k ((x0.take 6).drop 4)).bind fun t166 => (if 8 < (x0.length : Int) then (if 9 < (x0.length : Int) then (if 12 ≤ 16 then (if 16 ≤ (x0.length : Int) then ((impl_get.f k ((x0.take 16).drop 12)).bind fun t170 => (if 16 ≤ 20 then (if 20 ≤ (x0.length : Int) then ((impl_get.f k ((x0.take 20).drop 16)).bind fun t172 => (if 20 ≤ x5 then (if x5 ≤ (x0.length : Int) then ((impl_dup.f ((x0.take (x5 : Int).toNat).drop 20)).bind fun t175 => (if 0 ≤ x5 then (if x5 ≤ x6 then (if x6 ≤ (x0.length : Int) then ((impl_dup.f ((x0.take (x6 : Int).toNat).drop (x5 : Int).toNat)).bind fun t179 => (if (t163 / 32768) = 1 then (some (x156000, x156001, x156002, x156003, x156004, x156005, x156006, x156007, x156008, ([] : List Int), ([] : List Int), 1)) else (if (wrap64 ((wrap64 ((Go.bits .and .i64 t163 8191) * 8)) + (t179.length : Int))) > 65535 then (some (x156000, x156001, x156002, x156003, x156004, x156005, x156006, x156007, x156008, ([] : List Int), ([] : List Int), 1)) else (some (wrap64 (rd x0 1), t166, ((Go.bits .and .i64 (t163 / 16384) 1) == 1), ((Go.bits .and .i64 (t163 / 8192) 1) == 1), wrap64 ((Go.bits .and .i64 t163 8191) * 8), wrap64 (rd x0 8), wrap64 (rd x0 9), t170, t172, t175, t179, 0))))) else (none)) else (none)) else (none))) else (none)) else (none))) else (none)) else (none))) else (none)) else (none)) else (none)) else (none))) else (none)) else (none)) else (none))) else (none)) else (none))
end
def impl_DecodeIP.f (k : Nat) (l0 : List Int) : Option (Int × Int × Bool × Bool × Int × Int × Int × Int × Int × List Int × List Int × Int) := if (l0.length : Int) < 20 then (some (0, 0, false, false, 0, 0, 0, 0, 0, ([] : List Int), ([] : List Int), 2)) else (if 0 < (l0.length : Int) then (if ((rd l0 0) / 16) = 4 then (if (wrap64 ((wrap64 (Go.bits .and .u8 (rd l0 0) 15)) * 4)) < 20 then (impl_DecodeIP.j0 k l0 (wrap64 ((wrap64 (Go.bits .and .u8 (rd l0 0) 15)) * 4)) true 0 0 false false 0 0 0 0 0) else (impl_DecodeIP.j0 k l0 (wrap64 ((wrap64 (Go.bits .and .u8 (rd l0 0) 15)) * 4)) (decide ((wrap64 ((wrap64 (Go.bits .and .u8 (rd l0 0) 15)) * 4)) > (l0.length : Int))) 0 0 false false 0 0 0 0 0)) else (some (0, 0, false, false, 0, 0, 0, 0, 0, ([] : List Int), ([] : List Int), 4))) else (none))
theorem impl_DecodeIP.mono_l : ∀ k, (∀ y0 y1 y2 y3 y4 y5 y6 y7 y8 y9 y10 y11, LeO (impl_DecodeIP.j0 k y0 y1 y2 y3 y4 y5 y6 y7 y8 y9 y10 y11) (impl_DecodeIP.j0 (k + 1) y0 y1 y2 y3 y4 y5 y6 y7 y8 y9 y10 y11)) ∧ (∀ y0 y1 y2 y3 y4 y5 y6 y7 y8 y9 y10 y11 y12, LeO (impl_DecodeIP.j1 k y0 y1 y2 y3 y4 y5 y6 y7 y8 y9 y10 y11 y12) (impl_DecodeIP.j1 (k + 1) y0 y1 y2 y3 y4 y5 y6 y7 y8 y9 y10 y11 y12))
  | 0 => ⟨fun _ _ _ _ _ _ _ _ _ _ _ _ r h => by simp [impl_DecodeIP.j0] at h, fun _ _ _ _ _ _ _ _ _ _ _ _ _ r h => by simp [impl_DecodeIP.j1] at h⟩
  | k + 1 => by
    obtain ⟨ih0, ih1⟩ := impl_DecodeIP.mono_l k
    refine ⟨?_, ?_⟩
    · intro y0 y1 y2 y3 y4 y5 y6 y7 y8 y9 y10 y11
      unfold impl_DecodeIP.j0
      repeat' first
      | (with_reducible exact ih0 _ _ _ _ _ _ _ _ _ _ _ _)
      | (with_reducible exact ih1 _ _ _ _ _ _ _ _ _ _ _ _ _)
      | (with_reducible exact impl_Checksum.mono _ _)
      | (with_reducible exact impl_get.mono _ _)
      | (with_reducible exact LeO.refl _)
      | (with_reducible exact LeO.none _)
      | (with_reducible refine LeO.ite ?_ ?_)
      | (with_reducible refine LeO.bind ?_ (fun _ => ?_))
      | exact ih0 _ _ _ _ _ _ _ _ _ _ _ _
      | exact ih1 _ _ _ _ _ _ _ _ _ _ _ _ _
      | exact impl_Checksum.mono _ _
      | exact impl_get.mono _ _
      | exact LeO.none _
      | refine LeO.ite ?_ ?_
      | refine LeO.bind ?_ (fun _ => ?_)
    · intro y0 y1 y2 y3 y4 y5 y6 y7 y8 y9 y10 y11 y12
      unfold impl_DecodeIP.j1
      repeat' first
      | (with_reducible exact ih0 _ _ _ _ _ _ _ _ _ _ _ _)
      | (with_reducible exact ih1 _ _ _ _ _ _ _ _ _ _ _ _ _)
      | (with_reducible exact impl_Checksum.mono _ _)
      | (with_reducible exact impl_get.mono _ _)
      | (with_reducible exact LeO.refl _)
      | (with_reducible exact LeO.none _)
      | (with_reducible refine LeO.ite ?_ ?_)
      | (with_reducible refine LeO.bind ?_ (fun _ => ?_))
      | exact ih0 _ _ _ _ _ _ _ _ _ _ _ _
      | exact ih1 _ _ _ _ _ _ _ _ _ _ _ _ _
      | exact impl_Checksum.mono _ _
      | exact impl_get.mono _ _
      | exact LeO.none _
      | refine LeO.ite ?_ ?_
      | refine LeO.bind ?_ (fun _ => ?_)
theorem impl_DecodeIP.mono : ∀ a0 k, LeO (impl_DecodeIP.f k a0) (impl_DecodeIP.f (k + 1) a0) := by
 intro a0 k
 obtain ⟨ih0, ih1⟩ := impl_DecodeIP.mono_l k
 unfold impl_DecodeIP.f
 repeat' first
     | (with_reducible exact ih0 _ _ _ _ _ _ _ _ _ _ _ _)
     | (with_reducible exact ih1 _ _ _ _ _ _ _ _ _ _ _ _ _)
     | (with_reducible exact impl_Checksum.mono _ _)
     | (with_reducible exact impl_get.mono _ _)
     | (with_reducible exact LeO.refl _)
     | (with_reducible exact LeO.none _)
     | (with_reducible refine LeO.ite ?_ ?_)
     | (with_reducible refine LeO.bind ?_ (fun _ => ?_))
     | exact ih0 _ _ _ _ _ _ _ _ _ _ _ _
     | exact ih1 _ _ _ _ _ _ _ _ _ _ _ _ _
     | exact impl_Checksum.mono _ _
     | exact impl_get.mono _ _
     | exact LeO.none _
     | refine LeO.ite ?_ ?_
     | refine LeO.bind ?_ (fun _ => ?_)
def impl_DecodeIP.T15 : Bool × List (List Nat × List Nat) := (true, [([], []), ([0], [0]), ([1], [1]), ([2], [2]), ([], []), ([4], [4]), ([5], [5]), ([], []), ([7], [7]), ([8], [8]), ([9], [9]), ([], []), ([11], [11]), ([12], [12]), ([13], [13]), ([], []), ([15], [15]), ([16], [16]), ([], []), ([18], [18]), ([19], [19]), ([20], [20]), ([], []), ([22], [22]), ([23], [23]), ([24], [24]), ([], []), ([26], [26]), ([27, 6], [27]), ([], []), ([29], [29]), ([30, 28], [30]), ([3, 6, 10, 14, 17, 21, 25, 28, 31], [3, 6, 10, 14, 17, 21, 25, 28, 31]), ([], []), ([33, 32, 31, 0, 1, 2, 3, 4, 5, 6, 7, 8, 9, 10, 11, 12, 13, 14, 15, 16, 17, 18, 19, 20, 21, 22, 23, 24, 25, 26, 27, 28, 29, 30, 31, 32, 33], [32, 33])])
def impl_DecodeIP.B15 : List Nat := [0, 1, 3, 7, 0, 16, 48, 0, 128, 384, 896, 0, 2048, 6144, 14336, 0, 32768, 98304, 0, 262144, 786432, 1835008, 0, 4194304, 12582912, 29360128, 0, 67108864, 201326704, 0, 536870912, 2080374896, 4294967295, 0, 17179869183]
theorem impl_DecodeIP.tab15 : rtab .any (opsOf Try.f31 15) = impl_DecodeIP.T15 := by kernel_rfl
theorem impl_DecodeIP.bits15 : waitsOk impl_DecodeIP.T15.2 impl_DecodeIP.B15 = true := by kernel_rfl
set_option maxHeartbeats 60000000 in
set_option maxRecDepth 100000 in
theorem impl_DecodeIP.calls (k : Nat) (A0 : Option Addr) (c0 : Nat) (l0 : List Int) (r1 : Int) (r2 : Int) (r3 : Bool) (r4 : Bool) (r5 : Int) (r6 : Int) (r7 : Int) (r8 : Int) (r9 : Int) (r10 : List Int) (r11 : List Int) (r12 : Int) (w : World) (hr0 : Kd.C (Kd.int .u8) w A0 l0.length l0) (hc0 : l0.length ≤ c0) (h : impl_DecodeIP.f k l0 = some (r1, r2, r3, r4, r5, r6, r7, r8, r9, r10, r11, r12)) :
 Calls Try.prog 31 #[.slice A0 l0.length c0] w fun e w' => ∃ v9_ v10_ : Value, e = .returned (.tuple #[.agg #[.int .i64 r1, .int .i64 r2, .bool r3, .bool r4, .int .i64 r5, .int .i64 r6, .int .i64 r7, .int .i64 r8, .int .i64 r9, v9_, v10_], .int .i64 r12]) ∧ Kd.R (Kd.int .u8) 5 w' w.heap.size (fun k_ => some k_ ≠ (v10_ : Value).ownBlock) v9_ r10 ∧ Kd.R (Kd.int .u8) 5 w' w.heap.size (fun k_ => some k_ ≠ (v9_ : Value).ownBlock) v10_ r11 ∧ Below w.heap.size w w' := by
 have hu51 := Try.underlying51
 have HR0 := Aside0.mk hr0
 have HC0 := Aside0.mk hc0
 clear hr0 hc0
 have HB := Aside0.mk (Below.refl w.heap.size w)
 have H : (if (l0.length : Int) < 20 then (some (0, 0, false, false, 0, 0, 0, 0, 0, ([] : List Int), ([] : List Int), 2)) else (if 0 < (l0.length : Int) then (if ((rd l0 0) / 16) = 4 then (if (wrap64 ((wrap64 (Go.bits .and .u8 (rd l0 0) 15)) * 4)) < 20 then (impl_DecodeIP.j0 k l0 (wrap64 ((wrap64 (Go.bits .and .u8 (rd l0 0) 15)) * 4)) true 0 0 false false 0 0 0 0 0) else (impl_DecodeIP.j0 k l0 (wrap64 ((wrap64 (Go.bits .and .u8 (rd l0 0) 15)) * 4)) (decide ((wrap64 ((wrap64 (Go.bits .and .u8 (rd l0 0) 15)) * 4)) > (l0.length : Int))) 0 0 false false 0 0 0 0 0)) else (some (0, 0, false, false, 0, 0, 0, 0, 0, ([] : List Int), ([] : List Int), 4))) else (none))) = some (r1, r2, r3, r4, r5, r6, r7, r8, r9, r10, r11, r12) := h
 clear h
 by_cases c2 : (l0.length : Int) < 20
 {
 rw [if_pos c2] at H
 have c2b0 : decide ((l0.length : Int) < 20) = true := decide_eq_true c2
 have c2b1 : decide (l0.length < 20) = true := decide_eq_true (by omega)
 clear c2
 simp only [Option.some.injEq, Prod.mk.injEq] at H
 obtain ⟨rfl, rfl, rfl, rfl, rfl, rfl, rfl, rfl, rfl, rfl, rfl, rfl⟩ := H
 go_enter Try.func31, Try.ntmps31
 go_wp2_with (first | ((with_reducible refine gate_dst (N := 2) rfl ?_); (try (refine gate_guard (by rfl) ?_; dsimp only)); refine box_event ?hg (N := 2) ?hd (cs := #[.int .i64 0, .int .i64 0, .bool false, .bool false, .int .i64 0, .int .i64 0, .int .i64 0, .int .i64 0, .int .i64 0, .slice none 0 0, .slice none 0 0]) (t := 51) ?hr ?_; (case hd => rfl); (case hg => rfl); (case hr => first | (go_simp; done) | (go_simp; rfl)); intro gb154 hg w1001 hbox hb; have n0_ := Aside0.mk (below_step wB hb); have n1_ := Aside0.mk (hbox); have n2_ := Aside0.mk ((by rw [hg]; exact (below_size wB) : w.heap.size ≤ gb154)); have n3_ := Aside0.mk ((by rw [hg]; exact (below_size wB) : w.heap.size ≤ gb154)); clear HB; have HB := n0_; have BK154 := n1_; have GW154 := n2_; have GE154 := n3_; clear n0_ n1_ n2_ n3_; clear hb hbox hg) | ((with_reducible refine gate_dst (N := 4) rfl ?_); (try (refine gate_guard (by rfl) ?_; dsimp only)); refine box_event ?hg (N := 4) ?hd (cs := #[.int .i64 0, .int .i64 0, .bool false, .bool false, .int .i64 0, .int .i64 0, .int .i64 0, .int .i64 0, .int .i64 0, .slice none 0 0, .slice none 0 0]) (t := 51) ?hr ?_; (case hd => rfl); (case hg => rfl); (case hr => first | (go_simp; done) | (go_simp; rfl)); intro gb155 hg w1002 hbox hb; have n0_ := Aside0.mk (blk_below (Bh BK154) hb); have n1_ := Aside0.mk (below_step wB hb); have n2_ := Aside0.mk (hbox); have n3_ := Aside0.mk ((by rw [hg]; exact (below_size wB) : w.heap.size ≤ gb155)); have n4_ := Aside0.mk ((by rw [hg]; exact (below_size wB) : w.heap.size ≤ gb155)); have n5_ := Aside0.mk ((by rw [hg]; exact Nat.ne_of_lt (blk_lt (Bh BK154)) : gb154 ≠ gb155)); have n6_ := Aside0.mk ((by rw [hg]; exact Nat.ne_of_gt (blk_lt (Bh BK154)) : gb155 ≠ gb154)); clear BK154; clear HB; have BK154 := n0_; have HB := n1_; have BK155 := n2_; have GW155 := n3_; have GE155 := n4_; have NB154_155 := n5_; have NB155_154 := n6_; clear n0_ n1_ n2_ n3_ n4_ n5_ n6_; clear hb hbox hg; have hnb1003 := NB155_154.out; have hnc1003 := NB154_155.out; obtain ⟨⟨hcz1004_0, hcz1004_1, hcz1004_2, hcz1004_3, hcz1004_4, hcz1004_5, hcz1004_6, hcz1004_7, hcz1004_8, hcz1004_9, hcz1004_10⟩, hfz1004_0, hfz1004_1, hfz1004_2, hfz1004_3, hfz1004_4, hfz1004_5, hfz1004_6, hfz1004_7, hfz1004_8, hfz1004_9, hfz1004_10⟩ := cells11 BK155.out; obtain ⟨⟨hcz1005_0, hcz1005_1, hcz1005_2, hcz1005_3, hcz1005_4, hcz1005_5, hcz1005_6, hcz1005_7, hcz1005_8, hcz1005_9, hcz1005_10⟩, hfz1005_0, hfz1005_1, hfz1005_2, hfz1005_3, hfz1005_4, hfz1005_5, hfz1005_6, hfz1005_7, hfz1005_8, hfz1005_9, hfz1005_10⟩ := cells11 BK154.out) | ((with_reducible refine gate_store (t := 51) (p := 2) rfl ?_); (try (rw [drewN_self w1002]; generalize hq_ : World.drewN w1002 _ = w1002; have n0_ := Aside0.mk (blk_at hq_ BK154.out); have n1_ := Aside0.mk (blk_at hq_ BK155.out); have n2_ := Aside0.mk (below_at hq_ HB.out); clear hq_ BK154 BK155 HB; have BK154 := n0_; have BK155 := n1_; have HB := n2_; clear n0_ n1_ n2_; (try (obtain ⟨⟨hcyBK154_0, hcyBK154_1, hcyBK154_2, hcyBK154_3, hcyBK154_4, hcyBK154_5, hcyBK154_6, hcyBK154_7, hcyBK154_8, hcyBK154_9, hcyBK154_10⟩, hfyBK154_0, hfyBK154_1, hfyBK154_2, hfyBK154_3, hfyBK154_4, hfyBK154_5, hfyBK154_6, hfyBK154_7, hfyBK154_8, hfyBK154_9, hfyBK154_10⟩ := cells11 BK154.out)); (try (obtain ⟨⟨hcyBK155_0, hcyBK155_1, hcyBK155_2, hcyBK155_3, hcyBK155_4, hcyBK155_5, hcyBK155_6, hcyBK155_7, hcyBK155_8, hcyBK155_9, hcyBK155_10⟩, hfyBK155_0, hfyBK155_1, hfyBK155_2, hfyBK155_3, hfyBK155_4, hfyBK155_5, hfyBK155_6, hfyBK155_7, hfyBK155_8, hfyBK155_9, hfyBK155_10⟩ := cells11 BK155.out)))); refine store_event (t := 51) (p := 2) (v := ?_) (w1 := (((((((((((w1002.setCell ⟨gb154, 0, none⟩ (.int .i64 0)).setCell ⟨gb154, 1, none⟩ (.int .i64 0)).setCell ⟨gb154, 2, none⟩ (.bool false)).setCell ⟨gb154, 3, none⟩ (.bool false)).setCell ⟨gb154, 4, none⟩ (.int .i64 0)).setCell ⟨gb154, 5, none⟩ (.int .i64 0)).setCell ⟨gb154, 6, none⟩ (.int .i64 0)).setCell ⟨gb154, 7, none⟩ (.int .i64 0)).setCell ⟨gb154, 8, none⟩ (.int .i64 0)).setCell ⟨gb154, 9, none⟩ (.slice none 0 0)).setCell ⟨gb154, 10, none⟩ (.slice none 0 0))) ?hg ?ho ?hn ?hr ?_; (case ho => rfl); (case hg => rfl); (case hn => rfl); (case hr => first | (go_simp; done) | (go_simp; rfl)); intro w1006 hw; have n0_ : Aside0 (w1006.heap[gb154]? = some (.cells #[.int .i64 0, .int .i64 0, .bool false, .bool false, .int .i64 0, .int .i64 0, .int .i64 0, .int .i64 0, .int .i64 0, .slice none 0 0, .slice none 0 0] 51 (0, 0))) := ⟨(by rw [hw]; exact (by (with_reducible repeat (first | refine blk_drewN ?_ _ | refine blk_drew ?_ | refine blk_alloc ?_ _)); refine blk_put (cs := #[.int .i64 0, .int .i64 0, .bool false, .bool false, .int .i64 0, .int .i64 0, .int .i64 0, .int .i64 0, .int .i64 0, .slice none 0 0, .slice none 0 0]) ?_ 10 _ rfl; (with_reducible repeat (first | refine blk_drewN ?_ _ | refine blk_drew ?_ | refine blk_alloc ?_ _)); refine blk_put (cs := #[.int .i64 0, .int .i64 0, .bool false, .bool false, .int .i64 0, .int .i64 0, .int .i64 0, .int .i64 0, .int .i64 0, .slice none 0 0, .slice none 0 0]) ?_ 9 _ rfl; (with_reducible repeat (first | refine blk_drewN ?_ _ | refine blk_drew ?_ | refine blk_alloc ?_ _)); refine blk_put (cs := #[.int .i64 0, .int .i64 0, .bool false, .bool false, .int .i64 0, .int .i64 0, .int .i64 0, .int .i64 0, .int .i64 0, .slice none 0 0, .slice none 0 0]) ?_ 8 _ rfl; (with_reducible repeat (first | refine blk_drewN ?_ _ | refine blk_drew ?_ | refine blk_alloc ?_ _)); refine blk_put (cs := #[.int .i64 0, .int .i64 0, .bool false, .bool false, .int .i64 0, .int .i64 0, .int .i64 0, .int .i64 0, .int .i64 0, .slice none 0 0, .slice none 0 0]) ?_ 7 _ rfl; (with_reducible repeat (first | refine blk_drewN ?_ _ | refine blk_drew ?_ | refine blk_alloc ?_ _)); refine blk_put (cs := #[.int .i64 0, .int .i64 0, .bool false, .bool false, .int .i64 0, .int .i64 0, .int .i64 0, .int .i64 0, .int .i64 0, .slice none 0 0, .slice none 0 0]) ?_ 6 _ rfl; (with_reducible repeat (first | refine blk_drewN ?_ _ | refine blk_drew ?_ | refine blk_alloc ?_ _)); refine blk_put (cs := #[.int .i64 0, .int .i64 0, .bool false, .bool false, .int .i64 0, .int .i64 0, .int .i64 0, .int .i64 0, .int .i64 0, .slice none 0 0, .slice none 0 0]) ?_ 5 _ rfl; (with_reducible repeat (first | refine blk_drewN ?_ _ | refine blk_drew ?_ | refine blk_alloc ?_ _)); refine blk_put (cs := #[.int .i64 0, .int .i64 0, .bool false, .bool false, .int .i64 0, .int .i64 0, .int .i64 0, .int .i64 0, .int .i64 0, .slice none 0 0, .slice none 0 0]) ?_ 4 _ rfl; (with_reducible repeat (first | refine blk_drewN ?_ _ | refine blk_drew ?_ | refine blk_alloc ?_ _)); refine blk_put (cs := #[.int .i64 0, .int .i64 0, .bool false, .bool false, .int .i64 0, .int .i64 0, .int .i64 0, .int .i64 0, .int .i64 0, .slice none 0 0, .slice none 0 0]) ?_ 3 _ rfl; (with_reducible repeat (first | refine blk_drewN ?_ _ | refine blk_drew ?_ | refine blk_alloc ?_ _)); refine blk_put (cs := #[.int .i64 0, .int .i64 0, .bool false, .bool false, .int .i64 0, .int .i64 0, .int .i64 0, .int .i64 0, .int .i64 0, .slice none 0 0, .slice none 0 0]) ?_ 2 _ rfl; (with_reducible repeat (first | refine blk_drewN ?_ _ | refine blk_drew ?_ | refine blk_alloc ?_ _)); refine blk_put (cs := #[.int .i64 0, .int .i64 0, .bool false, .bool false, .int .i64 0, .int .i64 0, .int .i64 0, .int .i64 0, .int .i64 0, .slice none 0 0, .slice none 0 0]) ?_ 1 _ rfl; (with_reducible repeat (first | refine blk_drewN ?_ _ | refine blk_drew ?_ | refine blk_alloc ?_ _)); refine blk_put (cs := #[.int .i64 0, .int .i64 0, .bool false, .bool false, .int .i64 0, .int .i64 0, .int .i64 0, .int .i64 0, .int .i64 0, .slice none 0 0, .slice none 0 0]) ?_ 0 _ rfl; (with_reducible repeat (first | refine blk_drewN ?_ _ | refine blk_drew ?_ | refine blk_alloc ?_ _)); exact BK154.out))⟩; have n1_ : Aside0 (w1006.heap[gb155]? = some (.cells #[.int .i64 0, .int .i64 0, .bool false, .bool false, .int .i64 0, .int .i64 0, .int .i64 0, .int .i64 0, .int .i64 0, .slice none 0 0, .slice none 0 0] 51 (0, 0))) := ⟨(by rw [hw]; exact (by (with_reducible repeat (first | refine blk_drewN ?_ _ | refine blk_drew ?_ | refine blk_alloc ?_ _)); refine blk_far ?_ NB155_154.out _; (with_reducible repeat (first | refine blk_drewN ?_ _ | refine blk_drew ?_ | refine blk_alloc ?_ _)); refine blk_far ?_ NB155_154.out _; (with_reducible repeat (first | refine blk_drewN ?_ _ | refine blk_drew ?_ | refine blk_alloc ?_ _)); refine blk_far ?_ NB155_154.out _; (with_reducible repeat (first | refine blk_drewN ?_ _ | refine blk_drew ?_ | refine blk_alloc ?_ _)); refine blk_far ?_ NB155_154.out _; (with_reducible repeat (first | refine blk_drewN ?_ _ | refine blk_drew ?_ | refine blk_alloc ?_ _)); refine blk_far ?_ NB155_154.out _; (with_reducible repeat (first | refine blk_drewN ?_ _ | refine blk_drew ?_ | refine blk_alloc ?_ _)); refine blk_far ?_ NB155_154.out _; (with_reducible repeat (first | refine blk_drewN ?_ _ | refine blk_drew ?_ | refine blk_alloc ?_ _)); refine blk_far ?_ NB155_154.out _; (with_reducible repeat (first | refine blk_drewN ?_ _ | refine blk_drew ?_ | refine blk_alloc ?_ _)); refine blk_far ?_ NB155_154.out _; (with_reducible repeat (first | refine blk_drewN ?_ _ | refine blk_drew ?_ | refine blk_alloc ?_ _)); refine blk_far ?_ NB155_154.out _; (with_reducible repeat (first | refine blk_drewN ?_ _ | refine blk_drew ?_ | refine blk_alloc ?_ _)); refine blk_far ?_ NB155_154.out _; (with_reducible repeat (first | refine blk_drewN ?_ _ | refine blk_drew ?_ | refine blk_alloc ?_ _)); refine blk_far ?_ NB155_154.out _; (with_reducible repeat (first | refine blk_drewN ?_ _ | refine blk_drew ?_ | refine blk_alloc ?_ _)); exact BK155.out))⟩; have n2_ : Aside0 (Below w.heap.size w w1006) := ⟨(by rw [hw]; exact wB)⟩; clear hw; clear BK154; clear BK155; clear HB; have BK154 := n0_; have BK155 := n1_; have HB := n2_; clear n0_ n1_ n2_))
 refine bodyPost_ret (results_ct rfl _ _ gb154 51 #[.int .i64 0, .int .i64 0, .bool false, .bool false, .int .i64 0, .int .i64 0, .int .i64 0, .int .i64 0, .int .i64 0, .slice none 0 0, .slice none 0 0] (0, 0) _ rfl (Bh BK154) Try.underlying51 rfl (by kernel_rfl)) rfl ?_
 exact ⟨_, _, by first | rfl | (simp [errW_none, errW_some] <;> rfl) | (simp [*, errW_none, errW_some] <;> rfl), by first | exact Kd.R_nil _ _ _ _ _ | exact Kd.N_nil _ _ _ _ _ | exact Kd.V_nil _ _ _ _ _ | exact Kd.Q_nil _ _ _ _ _ | exact Kd.S_nil _ _ _ _ _, by first | exact Kd.R_nil _ _ _ _ _ | exact Kd.N_nil _ _ _ _ _ | exact Kd.V_nil _ _ _ _ _ | exact Kd.Q_nil _ _ _ _ _ | exact Kd.S_nil _ _ _ _ _, wB⟩
 }
 {
 rw [if_neg c2] at H
 have c2b0 : decide ((l0.length : Int) < 20) = false := decide_eq_false c2
 have c2b1 : decide (l0.length < 20) = false := decide_eq_false (by omega)
 clear c2
 by_cases c3 : 0 < (l0.length : Int)
 {
 rw [if_pos c3] at H
 have c3b0 : decide (0 < (l0.length : Int)) = true := decide_eq_true c3
 have c3b1 : decide (0 < l0.length) = true := decide_eq_true (by omega)
 clear c3
 by_cases c4 : ((rd l0 0) / 16) = 4
 {
 rw [if_pos c4] at H
 have c4b0 : (((rd l0 0) / 16) == 4) = true := beq_iff_eq.mpr c4
 have c4b1 : (((rd l0 0) / 16) != 4) = false := bne_eq_false_iff_eq.mpr c4
 clear c4
 have HC5 := Aside0.mk H
 clear H
 go_enter Try.func31, Try.ntmps31
 go_upto_region 7 with (first | ((with_reducible refine gate_dst (N := 2) rfl ?_); (try (refine gate_guard (by rfl) ?_; dsimp only)); refine box_event ?hg (N := 2) ?hd (cs := #[.int .i64 0, .int .i64 0, .bool false, .bool false, .int .i64 0, .int .i64 0, .int .i64 0, .int .i64 0, .int .i64 0, .slice none 0 0, .slice none 0 0]) (t := 51) ?hr ?_; (case hd => rfl); (case hg => rfl); (case hr => first | (go_simp; done) | (go_simp; rfl)); intro gb154 hg w1001 hbox hb; have n0_ := Aside0.mk (below_step wB hb); have n1_ := Aside0.mk (hbox); have n2_ := Aside0.mk ((by rw [hg]; exact (below_size wB) : w.heap.size ≤ gb154)); have n3_ := Aside0.mk ((by rw [hg]; exact (below_size wB) : w.heap.size ≤ gb154)); clear HB; have HB := n0_; have BK154 := n1_; have GW154 := n2_; have GE154 := n3_; clear n0_ n1_ n2_ n3_; clear hb hbox hg) | ((with_reducible refine gate_dst (N := 4) rfl ?_); (try (refine gate_guard (by rfl) ?_; dsimp only)); refine box_event ?hg (N := 4) ?hd (cs := #[.int .i64 0, .int .i64 0, .bool false, .bool false, .int .i64 0, .int .i64 0, .int .i64 0, .int .i64 0, .int .i64 0, .slice none 0 0, .slice none 0 0]) (t := 51) ?hr ?_; (case hd => rfl); (case hg => rfl); (case hr => first | (go_simp; done) | (go_simp; rfl)); intro gb155 hg w1002 hbox hb; have n0_ := Aside0.mk (blk_below (Bh BK154) hb); have n1_ := Aside0.mk (below_step wB hb); have n2_ := Aside0.mk (hbox); have n3_ := Aside0.mk ((by rw [hg]; exact (below_size wB) : w.heap.size ≤ gb155)); have n4_ := Aside0.mk ((by rw [hg]; exact (below_size wB) : w.heap.size ≤ gb155)); have n5_ := Aside0.mk ((by rw [hg]; exact Nat.ne_of_lt (blk_lt (Bh BK154)) : gb154 ≠ gb155)); have n6_ := Aside0.mk ((by rw [hg]; exact Nat.ne_of_gt (blk_lt (Bh BK154)) : gb155 ≠ gb154)); clear BK154; clear HB; have BK154 := n0_; have HB := n1_; have BK155 := n2_; have GW155 := n3_; have GE155 := n4_; have NB154_155 := n5_; have NB155_154 := n6_; clear n0_ n1_ n2_ n3_ n4_ n5_ n6_; clear hb hbox hg; have p156 : 0 ≤ (0 : Int) := (by omega); have q156 : 0 < (l0.length : Int) := of_decide_eq_true (by first | (with_reducible assumption) | assumption); obtain ⟨ad156, e156, hx156_0⟩ := Kd.at_int HR0.out 0 p156 q156; cases e156; have qi156 : (0 < l0.length) = True := eq_true (by omega); (try rw [show ((0 : Int)).toNat = 0 from rfl] at hx156_0); (try rw [Addr.add_zero'] at hx156_0); replace hx156_0 := (HB.out.cell (World.block_lt_of_cell? w _ hx156_0)).trans hx156_0; replace p156 := eq_true p156; replace q156 := eq_true q156; have p157 : 0 ≤ (0 : Int) := (by omega); have q157 : 0 < (l0.length : Int) := of_decide_eq_true (by first | (with_reducible assumption) | assumption); obtain ⟨ad157, e157, hx157_0⟩ := Kd.at_int HR0.out 0 p157 q157; obtain rfl : ad156 = ad157 := (by injection e157); have qi157 : (0 < l0.length) = True := eq_true (by omega); (try rw [show ((0 : Int)).toNat = 0 from rfl] at hx157_0); (try rw [Addr.add_zero'] at hx157_0); replace hx157_0 := (HB.out.cell (World.block_lt_of_cell? w _ hx157_0)).trans hx157_0; replace p157 := eq_true p157; replace q157 := eq_true q157))
 (try simp only [Act.put, List.setIfInBounds_toArray, List.set_cons_zero, List.set_cons_succ])
 go_cut [32] (fun v32 wc => ∃ (kq : Nat) (x32_4 : Bool), v32 = .bool x32_4 ∧ Aside0 (impl_DecodeIP.j0 kq l0 (wrap64 ((wrap64 (Go.bits .and .u8 (rd l0 0) 15)) * 4)) x32_4 0 0 false false 0 0 0 0 0 = some (r1, r2, r3, r4, r5, r6, r7, r8, r9, r10, r11, r12)) ∧ Aside0 (kq ≤ k) ∧ Aside0 (wc.heap[gb154]? = some (.cells #[.int .i64 0, .int .i64 0, .bool false, .bool false, .int .i64 0, .int .i64 0, .int .i64 0, .int .i64 0, .int .i64 0, (.slice none 0 0), (.slice none 0 0)] 51 (0, 0))) ∧ Aside0 (wc.heap[gb155]? = some (.cells #[.int .i64 0, .int .i64 0, .bool false, .bool false, .int .i64 0, .int .i64 0, .int .i64 0, .int .i64 0, .int .i64 0, (.slice none 0 0), (.slice none 0 0)] 51 (0, 0))) ∧ Aside0 (Below w.heap.size w wc))
 case first => (
 have H := HC5.out
 clear HC5
 by_cases c1003 : (wrap64 ((wrap64 (Go.bits .and .u8 (rd l0 0) 15)) * 4)) < 20
 {
 rw [if_pos c1003] at H
 have c1003b0 : decide ((wrap64 ((wrap64 (Go.bits .and .u8 (rd l0 0) 15)) * 4)) < 20) = true := decide_eq_true c1003
 clear c1003
 (first | rw [c1003b0] | (simp only [i64_w, i32_w]; rw [c1003b0]) | skip)
 have H' := Aside0.mk H
 clear H
 go_wp2
 go_meet
 case rel => exact ⟨_, (true), (by first | rfl | (simp; done) | (simp [*]; done)), H', ⟨by first | omega | exact Nat.le_refl _⟩, ⟨Bh BK154⟩, ⟨Bh BK155⟩, ⟨wB⟩⟩
 }
 {
 rw [if_neg c1003] at H
 have c1003b0 : decide ((wrap64 ((wrap64 (Go.bits .and .u8 (rd l0 0) 15)) * 4)) < 20) = false := decide_eq_false c1003
 clear c1003
 (first | rw [c1003b0] | (simp only [i64_w, i32_w]; rw [c1003b0]) | skip)
 have H' := Aside0.mk H
 clear H
 go_wp2
 go_meet
 case rel => exact ⟨_, (decide ((wrap64 ((wrap64 (Go.bits .and .u8 (rd l0 0) 15)) * 4)) > (l0.length : Int))), (by first | rfl | (simp; done) | (simp [*]; done)), H', ⟨by first | omega | exact Nat.le_refl _⟩, ⟨Bh BK154⟩, ⟨Bh BK155⟩, ⟨wB⟩⟩
 }
 )
 case rest => (
 clear HC5
 try clear c2
 try clear c2b0
 try clear c2b1
 try clear p2
 try clear c3
 try clear c3b0
 try clear c3b1
 try clear c4
 try clear c4b0
 try clear c4b1
 try clear p156
 try clear q156
 try clear hx156
 try clear qi156
 try clear p157
 try clear q157
 try clear hx157
 try clear qi157
 try clear c1003
 try clear c1003b0
 try clear hcz1004_0 hcz1004_1 hcz1004_10 hcz1004_2 hcz1004_3 hcz1004_4 hcz1004_5 hcz1004_6 hcz1004_7 hcz1004_8 hcz1004_9 hfz1004_0 hfz1004_1 hfz1004_10 hfz1004_2 hfz1004_3 hfz1004_4 hfz1004_5 hfz1004_6 hfz1004_7 hfz1004_8 hfz1004_9
 try clear hcz1005_0 hcz1005_1 hcz1005_10 hcz1005_2 hcz1005_3 hcz1005_4 hcz1005_5 hcz1005_6 hcz1005_7 hcz1005_8 hcz1005_9 hfz1005_0 hfz1005_1 hfz1005_10 hfz1005_2 hfz1005_3 hfz1005_4 hfz1005_5 hfz1005_6 hfz1005_7 hfz1005_8 hfz1005_9
 try clear hx156_0
 try clear hx157_0
 try clear p156
 try clear p157
 try clear q156
 try clear q157
 obtain ⟨kq, x32_4, rfl, HA, HJ4, BK154, BK155, HB⟩ := hcut
 cases kq with
 | zero => exact absurd HA.out (by simp [impl_DecodeIP.j0])
 | succ kj4 => {
 have H := HA.out
 clear HA
 simp only [impl_DecodeIP.j0] at H
 by_cases c1004 : x32_4 = true
 subst c1004
 have H1 : (some (0, 0, false, false, 0, 0, 0, 0, 0, ([] : List Int), ([] : List Int), 5)) = some (r1, r2, r3, r4, r5, r6, r7, r8, r9, r10, r11, r12) := by rw [if_pos rfl] at H; exact H
 clear H
 have H := H1
 clear H1
 simp only [Option.some.injEq, Prod.mk.injEq] at H
 obtain ⟨rfl, rfl, rfl, rfl, rfl, rfl, rfl, rfl, rfl, rfl, rfl, rfl⟩ := H
 rotate_left
 replace c1004 := Bool.eq_false_iff.mpr c1004
 subst c1004
 have H1 : (if 0 ≤ (wrap64 ((wrap64 (Go.bits .and .u8 (rd l0 0) 15)) * 4)) then (if (wrap64 ((wrap64 (Go.bits .and .u8 (rd l0 0) 15)) * 4)) ≤ (l0.length : Int) then ((impl_Checksum.f kj4 (l0.take ((wrap64 ((wrap64 (Go.bits .and .u8 (rd l0 0) 15)) * 4)) : Int).toNat)).bind fun t159 => (if t159 = 0 then (if 2 ≤ 4 then (if 4 ≤ (l0.length : Int) then ((impl_get.f kj4 ((l0.take 4).drop 2)).bind fun t161 => (if t161 < (wrap64 ((wrap64 (Go.bits .and .u8 (rd l0 0) 15)) * 4)) then (impl_DecodeIP.j1 kj4 l0 (wrap64 ((wrap64 (Go.bits .and .u8 (rd l0 0) 15)) * 4)) t161 true 0 0 false false 0 0 0 0 0) else (impl_DecodeIP.j1 kj4 l0 (wrap64 ((wrap64 (Go.bits .and .u8 (rd l0 0) 15)) * 4)) t161 (decide (t161 > (l0.length : Int))) 0 0 false false 0 0 0 0 0))) else (none)) else (none)) else (some (0, 0, false, false, 0, 0, 0, 0, 0, ([] : List Int), ([] : List Int), 3)))) else (none)) else (none)) = some (r1, r2, r3, r4, r5, r6, r7, r8, r9, r10, r11, r12) := by rw [if_neg (show ¬ (false = true) by decide)] at H; exact H
 clear H
 have H := H1
 clear H1
 obtain ⟨ji1005, hji1005⟩ : ∃ j_ : Int, (wrap64 ((wrap64 (Go.bits .and .u8 (rd l0 0) 15)) * 4)) = j_ := ⟨_, rfl⟩
 replace H : (if 0 ≤ (ji1005) then (if (ji1005) ≤ (l0.length : Int) then ((impl_Checksum.f kj4 (l0.take ((ji1005) : Int).toNat)).bind fun t159 => (if t159 = 0 then (if 2 ≤ 4 then (if 4 ≤ (l0.length : Int) then ((impl_get.f kj4 ((l0.take 4).drop 2)).bind fun t161 => (if t161 < (ji1005) then (impl_DecodeIP.j1 kj4 l0 (ji1005) t161 true 0 0 false false 0 0 0 0 0) else (impl_DecodeIP.j1 kj4 l0 (ji1005) t161 (decide (t161 > (l0.length : Int))) 0 0 false false 0 0 0 0 0))) else (none)) else (none)) else (some (0, 0, false, false, 0, 0, 0, 0, 0, ([] : List Int), ([] : List Int), 3)))) else (none)) else (none)) = some (r1, r2, r3, r4, r5, r6, r7, r8, r9, r10, r11, r12) := by first | (rw [hji1005] at H; exact H) | (simp only [hji1005] at H ⊢; exact H)
 have hji1005w : (IntKind.i64.wrap ((wrap64 (Go.bits .and .u8 (rd l0 0) 15)) * 4)) = ji1005 := (i64_w _).trans hji1005
 by_cases c1006 : 0 ≤ (ji1005)
 rw [if_pos c1006] at H
 have c1006b0 := eq_true c1006
 have c1006b1 : decide (0 ≤ (ji1005)) = true := decide_eq_true c1006
 clear c1006
 by_cases c1007 : (ji1005) ≤ (l0.length : Int)
 rw [if_pos c1007] at H
 have c1007b0 := eq_true c1007
 have c1007b1 : decide ((ji1005) ≤ (l0.length : Int)) = true := decide_eq_true c1007
 clear c1007
 replace H := Option.bind_eq_some_iff.mp H
 obtain ⟨t159, A10080, H⟩ := H
 replace H : (if t159 = 0 then (if 2 ≤ 4 then (if 4 ≤ (l0.length : Int) then ((impl_get.f kj4 ((l0.take 4).drop 2)).bind fun t161 => (if t161 < (ji1005) then (impl_DecodeIP.j1 kj4 l0 (ji1005) t161 true 0 0 false false 0 0 0 0 0) else (impl_DecodeIP.j1 kj4 l0 (ji1005) t161 (decide (t161 > (l0.length : Int))) 0 0 false false 0 0 0 0 0))) else (none)) else (none)) else (some (0, 0, false, false, 0, 0, 0, 0, 0, ([] : List Int), ([] : List Int), 3))) = some (r1, r2, r3, r4, r5, r6, r7, r8, r9, r10, r11, r12) := H
 have A1008 := Aside0.mk A10080
 clear A10080
 by_cases c1009 : t159 = 0
 rw [if_pos c1009] at H
 have c1009b0 : (t159 == 0) = true := beq_iff_eq.mpr c1009
 have c1009b1 : (t159 != 0) = false := bne_eq_false_iff_eq.mpr c1009
 clear c1009
 by_cases c1010 : 2 ≤ 4
 rw [if_pos c1010] at H
 have c1010b0 := eq_true c1010
 have c1010b1 : decide (2 ≤ 4) = true := decide_eq_true c1010
 clear c1010
 by_cases c1011 : 4 ≤ (l0.length : Int)
 rw [if_pos c1011] at H
 have c1011b0 := eq_true c1011
 have c1011b1 : decide (4 ≤ (l0.length : Int)) = true := decide_eq_true c1011
 clear c1011
 replace H := Option.bind_eq_some_iff.mp H
 obtain ⟨t161, A10120, H⟩ := H
 replace H : (if t161 < (ji1005) then (impl_DecodeIP.j1 kj4 l0 (ji1005) t161 true 0 0 false false 0 0 0 0 0) else (impl_DecodeIP.j1 kj4 l0 (ji1005) t161 (decide (t161 > (l0.length : Int))) 0 0 false false 0 0 0 0 0)) = some (r1, r2, r3, r4, r5, r6, r7, r8, r9, r10, r11, r12) := H
 have A1012 := Aside0.mk A10120
 clear A10120
 have HC1013 := Aside0.mk H
 clear H
 rotate_left
 rw [if_neg c1011] at H
 exact absurd H (by simp)
 rw [if_neg c1010] at H
 exact absurd H (by simp)
 rw [if_neg c1009] at H
 have c1009b0 : (t159 == 0) = false := beq_eq_false_iff_ne.mpr c1009
 have c1009b1 : (t159 != 0) = true := bne_iff_ne.mpr c1009
 simp only [Option.some.injEq, Prod.mk.injEq] at H
 obtain ⟨rfl, rfl, rfl, rfl, rfl, rfl, rfl, rfl, rfl, rfl, rfl, rfl⟩ := H
 rotate_left
 rw [if_neg c1007] at H
 exact absurd H (by simp)
 rw [if_neg c1006] at H
 exact absurd H (by simp)
 {
 have hnb2001 := NB155_154.out
 have hnc2001 := NB154_155.out
 obtain ⟨⟨hcz2002_0, hcz2002_1, hcz2002_2, hcz2002_3, hcz2002_4, hcz2002_5, hcz2002_6, hcz2002_7, hcz2002_8, hcz2002_9, hcz2002_10⟩, hfz2002_0, hfz2002_1, hfz2002_2, hfz2002_3, hfz2002_4, hfz2002_5, hfz2002_6, hfz2002_7, hfz2002_8, hfz2002_9, hfz2002_10⟩ := cells11 BK155.out
 obtain ⟨⟨hcz2003_0, hcz2003_1, hcz2003_2, hcz2003_3, hcz2003_4, hcz2003_5, hcz2003_6, hcz2003_7, hcz2003_8, hcz2003_9, hcz2003_10⟩, hfz2003_0, hfz2003_1, hfz2003_2, hfz2003_3, hfz2003_4, hfz2003_5, hfz2003_6, hfz2003_7, hfz2003_8, hfz2003_9, hfz2003_10⟩ := cells11 BK154.out
 go_wp2_with (first | ((with_reducible refine gate_store (t := 51) (p := 2) rfl ?_); (try (rw [drewN_self wc]; generalize hq_ : World.drewN wc _ = wc; have n0_ := Aside0.mk (blk_at hq_ BK154.out); have n1_ := Aside0.mk (blk_at hq_ BK155.out); have n2_ := Aside0.mk (below_at hq_ HB.out); clear hq_ BK154 BK155 HB; have BK154 := n0_; have BK155 := n1_; have HB := n2_; clear n0_ n1_ n2_; (try (obtain ⟨⟨hcyBK154_0, hcyBK154_1, hcyBK154_2, hcyBK154_3, hcyBK154_4, hcyBK154_5, hcyBK154_6, hcyBK154_7, hcyBK154_8, hcyBK154_9, hcyBK154_10⟩, hfyBK154_0, hfyBK154_1, hfyBK154_2, hfyBK154_3, hfyBK154_4, hfyBK154_5, hfyBK154_6, hfyBK154_7, hfyBK154_8, hfyBK154_9, hfyBK154_10⟩ := cells11 BK154.out)); (try (obtain ⟨⟨hcyBK155_0, hcyBK155_1, hcyBK155_2, hcyBK155_3, hcyBK155_4, hcyBK155_5, hcyBK155_6, hcyBK155_7, hcyBK155_8, hcyBK155_9, hcyBK155_10⟩, hfyBK155_0, hfyBK155_1, hfyBK155_2, hfyBK155_3, hfyBK155_4, hfyBK155_5, hfyBK155_6, hfyBK155_7, hfyBK155_8, hfyBK155_9, hfyBK155_10⟩ := cells11 BK155.out)))); refine store_event (t := 51) (p := 2) (v := ?_) (w1 := (((((((((((wc.setCell ⟨gb154, 0, none⟩ (.int .i64 0)).setCell ⟨gb154, 1, none⟩ (.int .i64 0)).setCell ⟨gb154, 2, none⟩ (.bool false)).setCell ⟨gb154, 3, none⟩ (.bool false)).setCell ⟨gb154, 4, none⟩ (.int .i64 0)).setCell ⟨gb154, 5, none⟩ (.int .i64 0)).setCell ⟨gb154, 6, none⟩ (.int .i64 0)).setCell ⟨gb154, 7, none⟩ (.int .i64 0)).setCell ⟨gb154, 8, none⟩ (.int .i64 0)).setCell ⟨gb154, 9, none⟩ (.slice none 0 0)).setCell ⟨gb154, 10, none⟩ (.slice none 0 0))) ?hg ?ho ?hn ?hr ?_; (case ho => rfl); (case hg => rfl); (case hn => rfl); (case hr => first | (go_simp; done) | (go_simp; rfl)); intro w2004 hw; have n0_ : Aside0 (w2004.heap[gb154]? = some (.cells #[.int .i64 0, .int .i64 0, .bool false, .bool false, .int .i64 0, .int .i64 0, .int .i64 0, .int .i64 0, .int .i64 0, .slice none 0 0, .slice none 0 0] 51 (0, 0))) := ⟨(by rw [hw]; exact (by (with_reducible repeat (first | refine blk_drewN ?_ _ | refine blk_drew ?_ | refine blk_alloc ?_ _)); refine blk_put (cs := #[.int .i64 0, .int .i64 0, .bool false, .bool false, .int .i64 0, .int .i64 0, .int .i64 0, .int .i64 0, .int .i64 0, .slice none 0 0, .slice none 0 0]) ?_ 10 _ rfl; (with_reducible repeat (first | refine blk_drewN ?_ _ | refine blk_drew ?_ | refine blk_alloc ?_ _)); refine blk_put (cs := #[.int .i64 0, .int .i64 0, .bool false, .bool false, .int .i64 0, .int .i64 0, .int .i64 0, .int .i64 0, .int .i64 0, .slice none 0 0, .slice none 0 0]) ?_ 9 _ rfl; (with_reducible repeat (first | refine blk_drewN ?_ _ | refine blk_drew ?_ | refine blk_alloc ?_ _)); refine blk_put (cs := #[.int .i64 0, .int .i64 0, .bool false, .bool false, .int .i64 0, .int .i64 0, .int .i64 0, .int .i64 0, .int .i64 0, .slice none 0 0, .slice none 0 0]) ?_ 8 _ rfl; (with_reducible repeat (first | refine blk_drewN ?_ _ | refine blk_drew ?_ | refine blk_alloc ?_ _)); refine blk_put (cs := #[.int .i64 0, .int .i64 0, .bool false, .bool false, .int .i64 0, .int .i64 0, .int .i64 0, .int .i64 0, .int .i64 0, .slice none 0 0, .slice none 0 0]) ?_ 7 _ rfl; (with_reducible repeat (first | refine blk_drewN ?_ _ | refine blk_drew ?_ | refine blk_alloc ?_ _)); refine blk_put (cs := #[.int .i64 0, .int .i64 0, .bool false, .bool false, .int .i64 0, .int .i64 0, .int .i64 0, .int .i64 0, .int .i64 0, .slice none 0 0, .slice none 0 0]) ?_ 6 _ rfl; (with_reducible repeat (first | refine blk_drewN ?_ _ | refine blk_drew ?_ | refine blk_alloc ?_ _)); refine blk_put (cs := #[.int .i64 0, .int .i64 0, .bool false, .bool false, .int .i64 0, .int .i64 0, .int .i64 0, .int .i64 0, .int .i64 0, .slice none 0 0, .slice none 0 0]) ?_ 5 _ rfl; (with_reducible repeat (first | refine blk_drewN ?_ _ | refine blk_drew ?_ | refine blk_alloc ?_ _)); refine blk_put (cs := #[.int .i64 0, .int .i64 0, .bool false, .bool false, .int .i64 0, .int .i64 0, .int .i64 0, .int .i64 0, .int .i64 0, .slice none 0 0, .slice none 0 0]) ?_ 4 _ rfl; (with_reducible repeat (first | refine blk_drewN ?_ _ | refine blk_drew ?_ | refine blk_alloc ?_ _)); refine blk_put (cs := #[.int .i64 0, .int .i64 0, .bool false, .bool false, .int .i64 0, .int .i64 0, .int .i64 0, .int .i64 0, .int .i64 0, .slice none 0 0, .slice none 0 0]) ?_ 3 _ rfl; (with_reducible repeat (first | refine blk_drewN ?_ _ | refine blk_drew ?_ | refine blk_alloc ?_ _)); refine blk_put (cs := #[.int .i64 0, .int .i64 0, .bool false, .bool false, .int .i64 0, .int .i64 0, .int .i64 0, .int .i64 0, .int .i64 0, .slice none 0 0, .slice none 0 0]) ?_ 2 _ rfl; (with_reducible repeat (first | refine blk_drewN ?_ _ | refine blk_drew ?_ | refine blk_alloc ?_ _)); refine blk_put (cs := #[.int .i64 0, .int .i64 0, .bool false, .bool false, .int .i64 0, .int .i64 0, .int .i64 0, .int .i64 0, .int .i64 0, .slice none 0 0, .slice none 0 0]) ?_ 1 _ rfl; (with_reducible repeat (first | refine blk_drewN ?_ _ | refine blk_drew ?_ | refine blk_alloc ?_ _)); refine blk_put (cs := #[.int .i64 0, .int .i64 0, .bool false, .bool false, .int .i64 0, .int .i64 0, .int .i64 0, .int .i64 0, .int .i64 0, .slice none 0 0, .slice none 0 0]) ?_ 0 _ rfl; (with_reducible repeat (first | refine blk_drewN ?_ _ | refine blk_drew ?_ | refine blk_alloc ?_ _)); exact BK154.out))⟩; have n1_ : Aside0 (w2004.heap[gb155]? = some (.cells #[.int .i64 0, .int .i64 0, .bool false, .bool false, .int .i64 0, .int .i64 0, .int .i64 0, .int .i64 0, .int .i64 0, .slice none 0 0, .slice none 0 0] 51 (0, 0))) := ⟨(by rw [hw]; exact (by (with_reducible repeat (first | refine blk_drewN ?_ _ | refine blk_drew ?_ | refine blk_alloc ?_ _)); refine blk_far ?_ NB155_154.out _; (with_reducible repeat (first | refine blk_drewN ?_ _ | refine blk_drew ?_ | refine blk_alloc ?_ _)); refine blk_far ?_ NB155_154.out _; (with_reducible repeat (first | refine blk_drewN ?_ _ | refine blk_drew ?_ | refine blk_alloc ?_ _)); refine blk_far ?_ NB155_154.out _; (with_reducible repeat (first | refine blk_drewN ?_ _ | refine blk_drew ?_ | refine blk_alloc ?_ _)); refine blk_far ?_ NB155_154.out _; (with_reducible repeat (first | refine blk_drewN ?_ _ | refine blk_drew ?_ | refine blk_alloc ?_ _)); refine blk_far ?_ NB155_154.out _; (with_reducible repeat (first | refine blk_drewN ?_ _ | refine blk_drew ?_ | refine blk_alloc ?_ _)); refine blk_far ?_ NB155_154.out _; (with_reducible repeat (first | refine blk_drewN ?_ _ | refine blk_drew ?_ | refine blk_alloc ?_ _)); refine blk_far ?_ NB155_154.out _; (with_reducible repeat (first | refine blk_drewN ?_ _ | refine blk_drew ?_ | refine blk_alloc ?_ _)); refine blk_far ?_ NB155_154.out _; (with_reducible repeat (first | refine blk_drewN ?_ _ | refine blk_drew ?_ | refine blk_alloc ?_ _)); refine blk_far ?_ NB155_154.out _; (with_reducible repeat (first | refine blk_drewN ?_ _ | refine blk_drew ?_ | refine blk_alloc ?_ _)); refine blk_far ?_ NB155_154.out _; (with_reducible repeat (first | refine blk_drewN ?_ _ | refine blk_drew ?_ | refine blk_alloc ?_ _)); refine blk_far ?_ NB155_154.out _; (with_reducible repeat (first | refine blk_drewN ?_ _ | refine blk_drew ?_ | refine blk_alloc ?_ _)); exact BK155.out))⟩; have n2_ : Aside0 (Below w.heap.size w w2004) := ⟨(by rw [hw]; exact wB)⟩; clear hw; clear BK154; clear BK155; clear HB; have BK154 := n0_; have BK155 := n1_; have HB := n2_; clear n0_ n1_ n2_))
 refine bodyPost_ret (results_ct rfl _ _ gb154 51 #[.int .i64 0, .int .i64 0, .bool false, .bool false, .int .i64 0, .int .i64 0, .int .i64 0, .int .i64 0, .int .i64 0, .slice none 0 0, .slice none 0 0] (0, 0) _ rfl (Bh BK154) Try.underlying51 rfl (by kernel_rfl)) rfl ?_
 exact ⟨_, _, by first | rfl | (simp [errW_none, errW_some] <;> rfl) | (simp [*, errW_none, errW_some] <;> rfl), by first | exact Kd.R_nil _ _ _ _ _ | exact Kd.N_nil _ _ _ _ _ | exact Kd.V_nil _ _ _ _ _ | exact Kd.Q_nil _ _ _ _ _ | exact Kd.S_nil _ _ _ _ _, by first | exact Kd.R_nil _ _ _ _ _ | exact Kd.N_nil _ _ _ _ _ | exact Kd.V_nil _ _ _ _ _ | exact Kd.Q_nil _ _ _ _ _ | exact Kd.S_nil _ _ _ _ _, wB⟩
 }
 all_goals (
 obtain ⟨i02001, hi02001, _, hsz2001, _⟩ := info_parts info5
 obtain ⟨hcut2001, hA2001, hC2001⟩ := print_take_of (P := Try.prog) (Value.int .u8) 0 22 5 .i64 Try.underlying22 hi02001 hsz2001 (some ad156) c0 l0 (ji1005) (of_decide_eq_true (by first | (with_reducible assumption) | assumption)) (of_decide_eq_true (by first | (with_reducible assumption) | assumption)) HC0.out
 have HR158 := Aside0.mk (Kd.C_of_reads (h1 := fun _ => rfl) (hA2001 _ (Kd.reads_of_C HR0.out)))
 have HC158 := Aside0.mk hC2001
 clear hA2001 hC2001 hi02001 hsz2001
 )
 {
 go_upto_region 12 with (first | ((with_reducible refine gate_callee (f := 71) rfl ?_); refine goesL_ (some 37) rfl rfl Try.func71 (by kernel_rfl) rfl #[.slice (some ad156) (l0.take ((ji1005) : Int).toNat).length c0] rfl (by (try simp only [List.map_toArray, List.map_cons, List.map_nil]); first | done | (rw [show (l0.take ((ji1005) : Int).toNat).length = (ji1005).toNat from (by rw [List.length_take]; have h_ : ((ji1005) : Int) ≤ (l0.length : Int) := of_decide_eq_true (by first | (with_reducible assumption) | assumption); omega)] <;> rfl) | (simp only [hji1005]; rfl) | rfl | (simp only [List.length_drop, List.length_take]; rfl)) ?_; (with_reducible refine (impl_Checksum.calls kj4 _ _ (l0.take ((ji1005) : Int).toNat) t159 _ ?side1 ?side2 A1008.out).mono ?_); (case side1 => exact Kd.C_below HR158.out wB); (case side2 => exact HC158.out); rintro e w' ⟨rfl, ⟨nd, rfl⟩⟩; refine ⟨_, rfl, ?_⟩; obtain ⟨i02002, hi02002, _, hsz2002, _⟩ := info_parts info5; obtain ⟨A2002, hcut2002, hA2002, hC2002⟩ := print_mid_of (P := Try.prog) (Value.int .u8) 0 22 5 .i64 .i64 Try.underlying22 hi02002 hsz2002 (some ad156) c0 l0 2 4 (by omega) (by first | omega | exact of_decide_eq_true (by first | (with_reducible assumption) | assumption)) (of_decide_eq_true (by first | (with_reducible assumption) | assumption)) HC0.out; have HR160 := Aside0.mk (Kd.C_of_reads (h1 := fun _ => rfl) (hA2002 _ (Kd.reads_of_C HR0.out))); have HC160 := Aside0.mk hC2002; clear hA2002 hC2002 hi02002 hsz2002) | ((with_reducible refine gate_callee (f := 72) rfl ?_); refine goesL_ (some 42) rfl rfl Try.func72 (by kernel_rfl) rfl #[.slice A2002 ((l0.take 4).drop 2).length (c0 - 2)] rfl (by (try simp only [List.map_toArray, List.map_cons, List.map_nil]); first | done | (rw [show ((l0.take 4).drop 2).length = (4 - 2) from (by rw [List.length_drop, List.length_take]; have h_ : (4 : Int) ≤ (l0.length : Int) := of_decide_eq_true (by first | (with_reducible assumption) | assumption); omega)] <;> rfl) | rfl | (simp only [List.length_drop, List.length_take]; rfl)) ?_; (with_reducible refine (impl_get.calls kj4 _ _ ((l0.take 4).drop 2) t161 _ ?side1 ?side2 A1012.out).mono ?_); (case side1 => repeat (first | exact (Kd.C_below HR160.out wB) | (with_reducible refine Kd.C_alloc ?_ _) | (with_reducible refine Kd.C_drewN ?_ _) | (with_reducible refine Kd.C_drew ?_))); (case side2 => exact HC160.out); rintro e w' ⟨rfl, ⟨nd, rfl⟩⟩; refine ⟨_, rfl, ?_⟩))
 (try simp only [Act.put, List.setIfInBounds_toArray, List.set_cons_zero, List.set_cons_succ])
 go_cut [51] (fun v51 wc => ∃ (kq : Nat) (x51_1012 : Bool), v51 = .bool x51_1012 ∧ Aside0 (impl_DecodeIP.j1 kq l0 (ji1005) t161 x51_1012 0 0 false false 0 0 0 0 0 = some (r1, r2, r3, r4, r5, r6, r7, r8, r9, r10, r11, r12)) ∧ Aside0 (kq ≤ kj4) ∧ Aside0 (wc.heap[gb154]? = some (.cells #[.int .i64 0, .int .i64 0, .bool false, .bool false, .int .i64 0, .int .i64 0, .int .i64 0, .int .i64 0, .int .i64 0, (.slice none 0 0), (.slice none 0 0)] 51 (0, 0))) ∧ Aside0 (wc.heap[gb155]? = some (.cells #[.int .i64 0, .int .i64 0, .bool false, .bool false, .int .i64 0, .int .i64 0, .int .i64 0, .int .i64 0, .int .i64 0, (.slice none 0 0), (.slice none 0 0)] 51 (0, 0))) ∧ Aside0 (Below w.heap.size w wc))
 case first => (
 have H := HC1013.out
 clear HC1013
 by_cases c2003 : t161 < (ji1005)
 {
 rw [if_pos c2003] at H
 have c2003b0 : decide (t161 < (ji1005)) = true := decide_eq_true c2003
 clear c2003
 (first | rw [c2003b0] | (simp only [i64_w, i32_w]; rw [c2003b0]) | skip)
 have H' := Aside0.mk H
 clear H
 go_wp2
 go_meet
 case rel => exact ⟨_, (true), (by first | rfl | (simp; done) | (simp [*]; done)), H', ⟨by have := HJ4.out; first | omega | exact Nat.le_refl _⟩, ⟨Bh BK154⟩, ⟨Bh BK155⟩, ⟨wB⟩⟩
 }
 {
 rw [if_neg c2003] at H
 have c2003b0 : decide (t161 < (ji1005)) = false := decide_eq_false c2003
 clear c2003
 (first | rw [c2003b0] | (simp only [i64_w, i32_w]; rw [c2003b0]) | skip)
 have H' := Aside0.mk H
 clear H
 go_wp2
 go_meet
 case rel => exact ⟨_, (decide (t161 > (l0.length : Int))), (by first | rfl | (simp; done) | (simp [*]; done)), H', ⟨by have := HJ4.out; first | omega | exact Nat.le_refl _⟩, ⟨Bh BK154⟩, ⟨Bh BK155⟩, ⟨wB⟩⟩
 }
 )
 case rest => (
 clear HC1013
 try clear c0
 try clear c2
 try clear c2b0
 try clear c2b1
 try clear p2
 try clear c3
 try clear c3b0
 try clear c3b1
 try clear c4
 try clear c4b0
 try clear c4b1
 try clear p156
 try clear q156
 try clear hx156
 try clear qi156
 try clear p157
 try clear q157
 try clear hx157
 try clear qi157
 try clear c1003
 try clear c1003b0
 try clear c1004
 try clear c1006
 try clear c1006b0
 try clear c1006b1
 try clear c1007
 try clear c1007b0
 try clear c1007b1
 try clear c1009
 try clear c1009b0
 try clear c1009b1
 try clear c1010
 try clear c1010b0
 try clear c1010b1
 try clear c1011
 try clear c1011b0
 try clear c1011b1
 try clear c2003
 try clear c2003b0
 try clear hcz1004_0 hcz1004_1 hcz1004_10 hcz1004_2 hcz1004_3 hcz1004_4 hcz1004_5 hcz1004_6 hcz1004_7 hcz1004_8 hcz1004_9 hfz1004_0 hfz1004_1 hfz1004_10 hfz1004_2 hfz1004_3 hfz1004_4 hfz1004_5 hfz1004_6 hfz1004_7 hfz1004_8 hfz1004_9
 try clear hcz1005_0 hcz1005_1 hcz1005_10 hcz1005_2 hcz1005_3 hcz1005_4 hcz1005_5 hcz1005_6 hcz1005_7 hcz1005_8 hcz1005_9 hfz1005_0 hfz1005_1 hfz1005_10 hfz1005_2 hfz1005_3 hfz1005_4 hfz1005_5 hfz1005_6 hfz1005_7 hfz1005_8 hfz1005_9
 try clear hcz2002_0 hcz2002_1 hcz2002_10 hcz2002_2 hcz2002_3 hcz2002_4 hcz2002_5 hcz2002_6 hcz2002_7 hcz2002_8 hcz2002_9 hfz2002_0 hfz2002_1 hfz2002_10 hfz2002_2 hfz2002_3 hfz2002_4 hfz2002_5 hfz2002_6 hfz2002_7 hfz2002_8 hfz2002_9
 try clear hcz2003_0 hcz2003_1 hcz2003_10 hcz2003_2 hcz2003_3 hcz2003_4 hcz2003_5 hcz2003_6 hcz2003_7 hcz2003_8 hcz2003_9 hfz2003_0 hfz2003_1 hfz2003_10 hfz2003_2 hfz2003_3 hfz2003_4 hfz2003_5 hfz2003_6 hfz2003_7 hfz2003_8 hfz2003_9
 try clear hx156_0
 try clear hx157_0
 try clear p156
 try clear p157
 try clear p2
 try clear q156
 try clear q157
 obtain ⟨kq, x51_1012, rfl, HA, HJ1012, BK154, BK155, HB⟩ := hcut
 cases kq with
 | zero => exact absurd HA.out (by simp [impl_DecodeIP.j1])
 | succ kj1012 => {
 have H := HA.out
 clear HA
 simp only [impl_DecodeIP.j1] at H
 by_cases c2004 : x51_1012 = true
 subst c2004
 have H1 : (some (0, 0, false, false, 0, 0, 0, 0, 0, ([] : List Int), ([] : List Int), 5)) = some (r1, r2, r3, r4, r5, r6, r7, r8, r9, r10, r11, r12) := by rw [if_pos rfl] at H; exact H
 clear H
 have H := H1
 clear H1
 simp only [Option.some.injEq, Prod.mk.injEq] at H
 obtain ⟨rfl, rfl, rfl, rfl, rfl, rfl, rfl, rfl, rfl, rfl, rfl, rfl⟩ := H
 rotate_left
 replace c2004 := Bool.eq_false_iff.mpr c2004
 subst c2004
 have H1 : (if 6 ≤ 8 then (if 8 ≤ (l0.length : Int) then ((impl_get.f kj1012 ((l0.take 8).drop 6)).bind fun t163 => (if 1 < (l0.length : Int) then (if 4 ≤ 6 then (if 6 ≤ (l0.length : Int) then ((impl_get.f kj1012 ((l0.take 6).drop 4)).bind fun t166 => (if 8 < (l0.length : Int) then (if 9 < (l0.length : Int) then (if 12 ≤ 16 then (if 16 ≤ (l0.length : Int) then ((impl_get.f kj1012 ((l0.take 16).drop 12)).bind fun t170 => (if 16 ≤ 20 then (if 20 ≤ (l0.length : Int) then ((impl_get.f kj1012 ((l0.take 20).drop 16)).bind fun t172 => (if 20 ≤ (ji1005) then (if (ji1005) ≤ (l0.length : Int) then ((impl_dup.f ((l0.take ((ji1005) : Int).toNat).drop 20)).bind fun t175 => (if 0 ≤ (ji1005) then (if (ji1005) ≤ t161 then (if t161 ≤ (l0.length : Int) then ((impl_dup.f ((l0.take (t161 : Int).toNat).drop ((ji1005) : Int).toNat)).bind fun t179 => (if (t163 / 32768) = 1 then (some (0, 0, false, false, 0, 0, 0, 0, 0, ([] : List Int), ([] : List Int), 1)) else (if (wrap64 ((wrap64 ((Go.bits .and .i64 t163 8191) * 8)) + (t179.length : Int))) > 65535 then (some (0, 0, false, false, 0, 0, 0, 0, 0, ([] : List Int), ([] : List Int), 1)) else (some (wrap64 (rd l0 1), t166, ((Go.bits .and .i64 (t163 / 16384) 1) == 1), ((Go.bits .and .i64 (t163 / 8192) 1) == 1), wrap64 ((Go.bits .and .i64 t163 8191) * 8), wrap64 (rd l0 8), wrap64 (rd l0 9), t170, t172, t175, t179, 0))))) else (none)) else (none)) else (none))) else (none)) else (none))) else (none)) else (none))) else (none)) else (none)) else (none)) else (none))) else (none)) else (none)) else (none))) else (none)) else (none)) = some (r1, r2, r3, r4, r5, r6, r7, r8, r9, r10, r11, r12) := by rw [if_neg (show ¬ (false = true) by decide)] at H; exact H
 clear H
 have H := H1
 clear H1
 by_cases c2005 : 6 ≤ 8
 rw [if_pos c2005] at H
 have c2005b0 := eq_true c2005
 have c2005b1 : decide (6 ≤ 8) = true := decide_eq_true c2005
 clear c2005
 by_cases c2006 : 8 ≤ (l0.length : Int)
 rw [if_pos c2006] at H
 have c2006b0 := eq_true c2006
 have c2006b1 : decide (8 ≤ (l0.length : Int)) = true := decide_eq_true c2006
 clear c2006
 replace H := Option.bind_eq_some_iff.mp H
 obtain ⟨t163, A20070, H⟩ := H
 replace H : (if 1 < (l0.length : Int) then (if 4 ≤ 6 then (if 6 ≤ (l0.length : Int) then ((impl_get.f kj1012 ((l0.take 6).drop 4)).bind fun t166 => (if 8 < (l0.length : Int) then (if 9 < (l0.length : Int) then (if 12 ≤ 16 then (if 16 ≤ (l0.length : Int) then ((impl_get.f kj1012 ((l0.take 16).drop 12)).bind fun t170 => (if 16 ≤ 20 then (if 20 ≤ (l0.length : Int) then ((impl_get.f kj1012 ((l0.take 20).drop 16)).bind fun t172 => (if 20 ≤ (ji1005) then (if (ji1005) ≤ (l0.length : Int) then ((impl_dup.f ((l0.take ((ji1005) : Int).toNat).drop 20)).bind fun t175 => (if 0 ≤ (ji1005) then (if (ji1005) ≤ t161 then (if t161 ≤ (l0.length : Int) then ((impl_dup.f ((l0.take (t161 : Int).toNat).drop ((ji1005) : Int).toNat)).bind fun t179 => (if (t163 / 32768) = 1 then (some (0, 0, false, false, 0, 0, 0, 0, 0, ([] : List Int), ([] : List Int), 1)) else (if (wrap64 ((wrap64 ((Go.bits .and .i64 t163 8191) * 8)) + (t179.length : Int))) > 65535 then (some (0, 0, false, false, 0, 0, 0, 0, 0, ([] : List Int), ([] : List Int), 1)) else (some (wrap64 (rd l0 1), t166, ((Go.bits .and .i64 (t163 / 16384) 1) == 1), ((Go.bits .and .i64 (t163 / 8192) 1) == 1), wrap64 ((Go.bits .and .i64 t163 8191) * 8), wrap64 (rd l0 8), wrap64 (rd l0 9), t170, t172, t175, t179, 0))))) else (none)) else (none)) else (none))) else (none)) else (none))) else (none)) else (none))) else (none)) else (none)) else (none)) else (none))) else (none)) else (none)) else (none)) = some (r1, r2, r3, r4, r5, r6, r7, r8, r9, r10, r11, r12) := H
 have A2007 := Aside0.mk A20070
 clear A20070
 by_cases c2008 : 1 < (l0.length : Int)
 rw [if_pos c2008] at H
 have c2008b0 : decide (1 < (l0.length : Int)) = true := decide_eq_true c2008
 have c2008b1 : decide (1 < l0.length) = true := decide_eq_true (by omega)
 clear c2008
 by_cases c2009 : 4 ≤ 6
 rw [if_pos c2009] at H
 have c2009b0 := eq_true c2009
 have c2009b1 : decide (4 ≤ 6) = true := decide_eq_true c2009
 clear c2009
 by_cases c2010 : 6 ≤ (l0.length : Int)
 rw [if_pos c2010] at H
 have c2010b0 := eq_true c2010
 have c2010b1 : decide (6 ≤ (l0.length : Int)) = true := decide_eq_true c2010
 clear c2010
 replace H := Option.bind_eq_some_iff.mp H
 obtain ⟨t166, A20110, H⟩ := H
 replace H : (if 8 < (l0.length : Int) then (if 9 < (l0.length : Int) then (if 12 ≤ 16 then (if 16 ≤ (l0.length : Int) then ((impl_get.f kj1012 ((l0.take 16).drop 12)).bind fun t170 => (if 16 ≤ 20 then (if 20 ≤ (l0.length : Int) then ((impl_get.f kj1012 ((l0.take 20).drop 16)).bind fun t172 => (if 20 ≤ (ji1005) then (if (ji1005) ≤ (l0.length : Int) then ((impl_dup.f ((l0.take ((ji1005) : Int).toNat).drop 20)).bind fun t175 => (if 0 ≤ (ji1005) then (if (ji1005) ≤ t161 then (if t161 ≤ (l0.length : Int) then ((impl_dup.f ((l0.take (t161 : Int).toNat).drop ((ji1005) : Int).toNat)).bind fun t179 => (if (t163 / 32768) = 1 then (some (0, 0, false, false, 0, 0, 0, 0, 0, ([] : List Int), ([] : List Int), 1)) else (if (wrap64 ((wrap64 ((Go.bits .and .i64 t163 8191) * 8)) + (t179.length : Int))) > 65535 then (some (0, 0, false, false, 0, 0, 0, 0, 0, ([] : List Int), ([] : List Int), 1)) else (some (wrap64 (rd l0 1), t166, ((Go.bits .and .i64 (t163 / 16384) 1) == 1), ((Go.bits .and .i64 (t163 / 8192) 1) == 1), wrap64 ((Go.bits .and .i64 t163 8191) * 8), wrap64 (rd l0 8), wrap64 (rd l0 9), t170, t172, t175, t179, 0))))) else (none)) else (none)) else (none))) else (none)) else (none))) else (none)) else (none))) else (none)) else (none)) else (none)) else (none)) = some (r1, r2, r3, r4, r5, r6, r7, r8, r9, r10, r11, r12) := H
 have A2011 := Aside0.mk A20110
 clear A20110
 by_cases c2012 : 8 < (l0.length : Int)
 rw [if_pos c2012] at H
 have c2012b0 : decide (8 < (l0.length : Int)) = true := decide_eq_true c2012
 have c2012b1 : decide (8 < l0.length) = true := decide_eq_true (by omega)
 clear c2012
 by_cases c2013 : 9 < (l0.length : Int)
 rw [if_pos c2013] at H
 have c2013b0 : decide (9 < (l0.length : Int)) = true := decide_eq_true c2013
 have c2013b1 : decide (9 < l0.length) = true := decide_eq_true (by omega)
 clear c2013
 by_cases c2014 : 12 ≤ 16
 rw [if_pos c2014] at H
 have c2014b0 := eq_true c2014
 have c2014b1 : decide (12 ≤ 16) = true := decide_eq_true c2014
 clear c2014
 by_cases c2015 : 16 ≤ (l0.length : Int)
 rw [if_pos c2015] at H
 have c2015b0 := eq_true c2015
 have c2015b1 : decide (16 ≤ (l0.length : Int)) = true := decide_eq_true c2015
 clear c2015
 replace H := Option.bind_eq_some_iff.mp H
 obtain ⟨t170, A20160, H⟩ := H
 replace H : (if 16 ≤ 20 then (if 20 ≤ (l0.length : Int) then ((impl_get.f kj1012 ((l0.take 20).drop 16)).bind fun t172 => (if 20 ≤ (ji1005) then (if (ji1005) ≤ (l0.length : Int) then ((impl_dup.f ((l0.take ((ji1005) : Int).toNat).drop 20)).bind fun t175 => (if 0 ≤ (ji1005) then (if (ji1005) ≤ t161 then (if t161 ≤ (l0.length : Int) then ((impl_dup.f ((l0.take (t161 : Int).toNat).drop ((ji1005) : Int).toNat)).bind fun t179 => (if (t163 / 32768) = 1 then (some (0, 0, false, false, 0, 0, 0, 0, 0, ([] : List Int), ([] : List Int), 1)) else (if (wrap64 ((wrap64 ((Go.bits .and .i64 t163 8191) * 8)) + (t179.length : Int))) > 65535 then (some (0, 0, false, false, 0, 0, 0, 0, 0, ([] : List Int), ([] : List Int), 1)) else (some (wrap64 (rd l0 1), t166, ((Go.bits .and .i64 (t163 / 16384) 1) == 1), ((Go.bits .and .i64 (t163 / 8192) 1) == 1), wrap64 ((Go.bits .and .i64 t163 8191) * 8), wrap64 (rd l0 8), wrap64 (rd l0 9), t170, t172, t175, t179, 0))))) else (none)) else (none)) else (none))) else (none)) else (none))) else (none)) else (none)) = some (r1, r2, r3, r4, r5, r6, r7, r8, r9, r10, r11, r12) := H
 have A2016 := Aside0.mk A20160
 clear A20160
 by_cases c2017 : 16 ≤ 20
 rw [if_pos c2017] at H
 have c2017b0 := eq_true c2017
 have c2017b1 : decide (16 ≤ 20) = true := decide_eq_true c2017
 clear c2017
 by_cases c2018 : 20 ≤ (l0.length : Int)
 rw [if_pos c2018] at H
 have c2018b0 := eq_true c2018
 have c2018b1 : decide (20 ≤ (l0.length : Int)) = true := decide_eq_true c2018
 clear c2018
 replace H := Option.bind_eq_some_iff.mp H
 obtain ⟨t172, A20190, H⟩ := H
 replace H : (if 20 ≤ (ji1005) then (if (ji1005) ≤ (l0.length : Int) then ((impl_dup.f ((l0.take ((ji1005) : Int).toNat).drop 20)).bind fun t175 => (if 0 ≤ (ji1005) then (if (ji1005) ≤ t161 then (if t161 ≤ (l0.length : Int) then ((impl_dup.f ((l0.take (t161 : Int).toNat).drop ((ji1005) : Int).toNat)).bind fun t179 => (if (t163 / 32768) = 1 then (some (0, 0, false, false, 0, 0, 0, 0, 0, ([] : List Int), ([] : List Int), 1)) else (if (wrap64 ((wrap64 ((Go.bits .and .i64 t163 8191) * 8)) + (t179.length : Int))) > 65535 then (some (0, 0, false, false, 0, 0, 0, 0, 0, ([] : List Int), ([] : List Int), 1)) else (some (wrap64 (rd l0 1), t166, ((Go.bits .and .i64 (t163 / 16384) 1) == 1), ((Go.bits .and .i64 (t163 / 8192) 1) == 1), wrap64 ((Go.bits .and .i64 t163 8191) * 8), wrap64 (rd l0 8), wrap64 (rd l0 9), t170, t172, t175, t179, 0))))) else (none)) else (none)) else (none))) else (none)) else (none)) = some (r1, r2, r3, r4, r5, r6, r7, r8, r9, r10, r11, r12) := H
 have A2019 := Aside0.mk A20190
 clear A20190
 by_cases c2020 : 20 ≤ (ji1005)
 rw [if_pos c2020] at H
 have c2020b0 := eq_true c2020
 have c2020b1 : decide (20 ≤ (ji1005)) = true := decide_eq_true c2020
 clear c2020
 by_cases c2021 : (ji1005) ≤ (l0.length : Int)
 rw [if_pos c2021] at H
 have c2021b0 := eq_true c2021
 have c2021b1 : decide ((ji1005) ≤ (l0.length : Int)) = true := decide_eq_true c2021
 clear c2021
 replace H := Option.bind_eq_some_iff.mp H
 obtain ⟨t175, A20220, H⟩ := H
 replace H : (if 0 ≤ (ji1005) then (if (ji1005) ≤ t161 then (if t161 ≤ (l0.length : Int) then ((impl_dup.f ((l0.take (t161 : Int).toNat).drop ((ji1005) : Int).toNat)).bind fun t179 => (if (t163 / 32768) = 1 then (some (0, 0, false, false, 0, 0, 0, 0, 0, ([] : List Int), ([] : List Int), 1)) else (if (wrap64 ((wrap64 ((Go.bits .and .i64 t163 8191) * 8)) + (t179.length : Int))) > 65535 then (some (0, 0, false, false, 0, 0, 0, 0, 0, ([] : List Int), ([] : List Int), 1)) else (some (wrap64 (rd l0 1), t166, ((Go.bits .and .i64 (t163 / 16384) 1) == 1), ((Go.bits .and .i64 (t163 / 8192) 1) == 1), wrap64 ((Go.bits .and .i64 t163 8191) * 8), wrap64 (rd l0 8), wrap64 (rd l0 9), t170, t172, t175, t179, 0))))) else (none)) else (none)) else (none)) = some (r1, r2, r3, r4, r5, r6, r7, r8, r9, r10, r11, r12) := H
 have A2022 := Aside0.mk A20220
 clear A20220
 by_cases c2023 : 0 ≤ (ji1005)
 rw [if_pos c2023] at H
 have c2023b0 := eq_true c2023
 have c2023b1 : decide (0 ≤ (ji1005)) = true := decide_eq_true c2023
 clear c2023
 by_cases c2024 : (ji1005) ≤ t161
 rw [if_pos c2024] at H
 have c2024b0 := eq_true c2024
 have c2024b1 : decide ((ji1005) ≤ t161) = true := decide_eq_true c2024
 clear c2024
 by_cases c2025 : t161 ≤ (l0.length : Int)
 rw [if_pos c2025] at H
 have c2025b0 := eq_true c2025
 have c2025b1 : decide (t161 ≤ (l0.length : Int)) = true := decide_eq_true c2025
 clear c2025
 replace H := Option.bind_eq_some_iff.mp H
 obtain ⟨t179, A20260, H⟩ := H
 replace H : (if (t163 / 32768) = 1 then (some (0, 0, false, false, 0, 0, 0, 0, 0, ([] : List Int), ([] : List Int), 1)) else (if (wrap64 ((wrap64 ((Go.bits .and .i64 t163 8191) * 8)) + (t179.length : Int))) > 65535 then (some (0, 0, false, false, 0, 0, 0, 0, 0, ([] : List Int), ([] : List Int), 1)) else (some (wrap64 (rd l0 1), t166, ((Go.bits .and .i64 (t163 / 16384) 1) == 1), ((Go.bits .and .i64 (t163 / 8192) 1) == 1), wrap64 ((Go.bits .and .i64 t163 8191) * 8), wrap64 (rd l0 8), wrap64 (rd l0 9), t170, t172, t175, t179, 0)))) = some (r1, r2, r3, r4, r5, r6, r7, r8, r9, r10, r11, r12) := H
 have A2026 := Aside0.mk A20260
 clear A20260
 by_cases c2027 : (t163 / 32768) = 1
 rw [if_pos c2027] at H
 have c2027b0 : ((t163 / 32768) == 1) = true := beq_iff_eq.mpr c2027
 have c2027b1 : ((t163 / 32768) != 1) = false := bne_eq_false_iff_eq.mpr c2027
 clear c2027
 simp only [Option.some.injEq, Prod.mk.injEq] at H
 obtain ⟨rfl, rfl, rfl, rfl, rfl, rfl, rfl, rfl, rfl, rfl, rfl, rfl⟩ := H
 rotate_left
 rw [if_neg c2027] at H
 have c2027b0 : ((t163 / 32768) == 1) = false := beq_eq_false_iff_ne.mpr c2027
 have c2027b1 : ((t163 / 32768) != 1) = true := bne_iff_ne.mpr c2027
 by_cases c2028 : (wrap64 ((wrap64 ((Go.bits .and .i64 t163 8191) * 8)) + (t179.length : Int))) > 65535
 rw [if_pos c2028] at H
 have c2028b0 : decide (65535 < (wrap64 ((wrap64 ((Go.bits .and .i64 t163 8191) * 8)) + (t179.length : Int)))) = true := decide_eq_true c2028
 clear c2028
 simp only [Option.some.injEq, Prod.mk.injEq] at H
 obtain ⟨rfl, rfl, rfl, rfl, rfl, rfl, rfl, rfl, rfl, rfl, rfl, rfl⟩ := H
 rotate_left
 rw [if_neg c2028] at H
 have c2028b0 : decide (65535 < (wrap64 ((wrap64 ((Go.bits .and .i64 t163 8191) * 8)) + (t179.length : Int)))) = false := decide_eq_false c2028
 clear c2028
 simp only [Option.some.injEq, Prod.mk.injEq] at H
 obtain ⟨rfl, rfl, rfl, rfl, rfl, rfl, rfl, rfl, rfl, rfl, rfl, rfl⟩ := H
 rotate_left
 rw [if_neg c2025] at H
 exact absurd H (by simp)
 rw [if_neg c2024] at H
 exact absurd H (by simp)
 rw [if_neg c2023] at H
 exact absurd H (by simp)
 rw [if_neg c2021] at H
 exact absurd H (by simp)
 rw [if_neg c2020] at H
 exact absurd H (by simp)
 rw [if_neg c2018] at H
 exact absurd H (by simp)
 rw [if_neg c2017] at H
 exact absurd H (by simp)
 rw [if_neg c2015] at H
 exact absurd H (by simp)
 rw [if_neg c2014] at H
 exact absurd H (by simp)
 rw [if_neg c2013] at H
 exact absurd H (by simp)
 rw [if_neg c2012] at H
 exact absurd H (by simp)
 rw [if_neg c2010] at H
 exact absurd H (by simp)
 rw [if_neg c2009] at H
 exact absurd H (by simp)
 rw [if_neg c2008] at H
 exact absurd H (by simp)
 rw [if_neg c2006] at H
 exact absurd H (by simp)
 rw [if_neg c2005] at H
 exact absurd H (by simp)
 {
 have hnb3001 := NB155_154.out
 have hnc3001 := NB154_155.out
 obtain ⟨⟨hcz3002_0, hcz3002_1, hcz3002_2, hcz3002_3, hcz3002_4, hcz3002_5, hcz3002_6, hcz3002_7, hcz3002_8, hcz3002_9, hcz3002_10⟩, hfz3002_0, hfz3002_1, hfz3002_2, hfz3002_3, hfz3002_4, hfz3002_5, hfz3002_6, hfz3002_7, hfz3002_8, hfz3002_9, hfz3002_10⟩ := cells11 BK155.out
 obtain ⟨⟨hcz3003_0, hcz3003_1, hcz3003_2, hcz3003_3, hcz3003_4, hcz3003_5, hcz3003_6, hcz3003_7, hcz3003_8, hcz3003_9, hcz3003_10⟩, hfz3003_0, hfz3003_1, hfz3003_2, hfz3003_3, hfz3003_4, hfz3003_5, hfz3003_6, hfz3003_7, hfz3003_8, hfz3003_9, hfz3003_10⟩ := cells11 BK154.out
 go_wp2_with (first | ((with_reducible refine gate_store (t := 51) (p := 2) rfl ?_); (try (rw [drewN_self wc]; generalize hq_ : World.drewN wc _ = wc; have n0_ := Aside0.mk (blk_at hq_ BK154.out); have n1_ := Aside0.mk (blk_at hq_ BK155.out); have n2_ := Aside0.mk (below_at hq_ HB.out); clear hq_ BK154 BK155 HB; have BK154 := n0_; have BK155 := n1_; have HB := n2_; clear n0_ n1_ n2_; (try (obtain ⟨⟨hcyBK154_0, hcyBK154_1, hcyBK154_2, hcyBK154_3, hcyBK154_4, hcyBK154_5, hcyBK154_6, hcyBK154_7, hcyBK154_8, hcyBK154_9, hcyBK154_10⟩, hfyBK154_0, hfyBK154_1, hfyBK154_2, hfyBK154_3, hfyBK154_4, hfyBK154_5, hfyBK154_6, hfyBK154_7, hfyBK154_8, hfyBK154_9, hfyBK154_10⟩ := cells11 BK154.out)); (try (obtain ⟨⟨hcyBK155_0, hcyBK155_1, hcyBK155_2, hcyBK155_3, hcyBK155_4, hcyBK155_5, hcyBK155_6, hcyBK155_7, hcyBK155_8, hcyBK155_9, hcyBK155_10⟩, hfyBK155_0, hfyBK155_1, hfyBK155_2, hfyBK155_3, hfyBK155_4, hfyBK155_5, hfyBK155_6, hfyBK155_7, hfyBK155_8, hfyBK155_9, hfyBK155_10⟩ := cells11 BK155.out)))); refine store_event (t := 51) (p := 2) (v := ?_) (w1 := (((((((((((wc.setCell ⟨gb154, 0, none⟩ (.int .i64 0)).setCell ⟨gb154, 1, none⟩ (.int .i64 0)).setCell ⟨gb154, 2, none⟩ (.bool false)).setCell ⟨gb154, 3, none⟩ (.bool false)).setCell ⟨gb154, 4, none⟩ (.int .i64 0)).setCell ⟨gb154, 5, none⟩ (.int .i64 0)).setCell ⟨gb154, 6, none⟩ (.int .i64 0)).setCell ⟨gb154, 7, none⟩ (.int .i64 0)).setCell ⟨gb154, 8, none⟩ (.int .i64 0)).setCell ⟨gb154, 9, none⟩ (.slice none 0 0)).setCell ⟨gb154, 10, none⟩ (.slice none 0 0))) ?hg ?ho ?hn ?hr ?_; (case ho => rfl); (case hg => rfl); (case hn => rfl); (case hr => first | (go_simp; done) | (go_simp; rfl)); intro w3004 hw; have n0_ : Aside0 (w3004.heap[gb154]? = some (.cells #[.int .i64 0, .int .i64 0, .bool false, .bool false, .int .i64 0, .int .i64 0, .int .i64 0, .int .i64 0, .int .i64 0, .slice none 0 0, .slice none 0 0] 51 (0, 0))) := ⟨(by rw [hw]; exact (by (with_reducible repeat (first | refine blk_drewN ?_ _ | refine blk_drew ?_ | refine blk_alloc ?_ _)); refine blk_put (cs := #[.int .i64 0, .int .i64 0, .bool false, .bool false, .int .i64 0, .int .i64 0, .int .i64 0, .int .i64 0, .int .i64 0, .slice none 0 0, .slice none 0 0]) ?_ 10 _ rfl; (with_reducible repeat (first | refine blk_drewN ?_ _ | refine blk_drew ?_ | refine blk_alloc ?_ _)); refine blk_put (cs := #[.int .i64 0, .int .i64 0, .bool false, .bool false, .int .i64 0, .int .i64 0, .int .i64 0, .int .i64 0, .int .i64 0, .slice none 0 0, .slice none 0 0]) ?_ 9 _ rfl; (with_reducible repeat (first | refine blk_drewN ?_ _ | refine blk_drew ?_ | refine blk_alloc ?_ _)); refine blk_put (cs := #[.int .i64 0, .int .i64 0, .bool false, .bool false, .int .i64 0, .int .i64 0, .int .i64 0, .int .i64 0, .int .i64 0, .slice none 0 0, .slice none 0 0]) ?_ 8 _ rfl; (with_reducible repeat (first | refine blk_drewN ?_ _ | refine blk_drew ?_ | refine blk_alloc ?_ _)); refine blk_put (cs := #[.int .i64 0, .int .i64 0, .bool false, .bool false, .int .i64 0, .int .i64 0, .int .i64 0, .int .i64 0, .int .i64 0, .slice none 0 0, .slice none 0 0]) ?_ 7 _ rfl; (with_reducible repeat (first | refine blk_drewN ?_ _ | refine blk_drew ?_ | refine blk_alloc ?_ _)); refine blk_put (cs := #[.int .i64 0, .int .i64 0, .bool false, .bool false, .int .i64 0, .int .i64 0, .int .i64 0, .int .i64 0, .int .i64 0, .slice none 0 0, .slice none 0 0]) ?_ 6 _ rfl; (with_reducible repeat (first | refine blk_drewN ?_ _ | refine blk_drew ?_ | refine blk_alloc ?_ _)); refine blk_put (cs := #[.int .i64 0, .int .i64 0, .bool false, .bool false, .int .i64 0, .int .i64 0, .int .i64 0, .int .i64 0, .int .i64 0, .slice none 0 0, .slice none 0 0]) ?_ 5 _ rfl; (with_reducible repeat (first | refine blk_drewN ?_ _ | refine blk_drew ?_ | refine blk_alloc ?_ _)); refine blk_put (cs := #[.int .i64 0, .int .i64 0, .bool false, .bool false, .int .i64 0, .int .i64 0, .int .i64 0, .int .i64 0, .int .i64 0, .slice none 0 0, .slice none 0 0]) ?_ 4 _ rfl; (with_reducible repeat (first | refine blk_drewN ?_ _ | refine blk_drew ?_ | refine blk_alloc ?_ _)); refine blk_put (cs := #[.int .i64 0, .int .i64 0, .bool false, .bool false, .int .i64 0, .int .i64 0, .int .i64 0, .int .i64 0, .int .i64 0, .slice none 0 0, .slice none 0 0]) ?_ 3 _ rfl; (with_reducible repeat (first | refine blk_drewN ?_ _ | refine blk_drew ?_ | refine blk_alloc ?_ _)); refine blk_put (cs := #[.int .i64 0, .int .i64 0, .bool false, .bool false, .int .i64 0, .int .i64 0, .int .i64 0, .int .i64 0, .int .i64 0, .slice none 0 0, .slice none 0 0]) ?_ 2 _ rfl; (with_reducible repeat (first | refine blk_drewN ?_ _ | refine blk_drew ?_ | refine blk_alloc ?_ _)); refine blk_put (cs := #[.int .i64 0, .int .i64 0, .bool false, .bool false, .int .i64 0, .int .i64 0, .int .i64 0, .int .i64 0, .int .i64 0, .slice none 0 0, .slice none 0 0]) ?_ 1 _ rfl; (with_reducible repeat (first | refine blk_drewN ?_ _ | refine blk_drew ?_ | refine blk_alloc ?_ _)); refine blk_put (cs := #[.int .i64 0, .int .i64 0, .bool false, .bool false, .int .i64 0, .int .i64 0, .int .i64 0, .int .i64 0, .int .i64 0, .slice none 0 0, .slice none 0 0]) ?_ 0 _ rfl; (with_reducible repeat (first | refine blk_drewN ?_ _ | refine blk_drew ?_ | refine blk_alloc ?_ _)); exact BK154.out))⟩; have n1_ : Aside0 (w3004.heap[gb155]? = some (.cells #[.int .i64 0, .int .i64 0, .bool false, .bool false, .int .i64 0, .int .i64 0, .int .i64 0, .int .i64 0, .int .i64 0, .slice none 0 0, .slice none 0 0] 51 (0, 0))) := ⟨(by rw [hw]; exact (by (with_reducible repeat (first | refine blk_drewN ?_ _ | refine blk_drew ?_ | refine blk_alloc ?_ _)); refine blk_far ?_ NB155_154.out _; (with_reducible repeat (first | refine blk_drewN ?_ _ | refine blk_drew ?_ | refine blk_alloc ?_ _)); refine blk_far ?_ NB155_154.out _; (with_reducible repeat (first | refine blk_drewN ?_ _ | refine blk_drew ?_ | refine blk_alloc ?_ _)); refine blk_far ?_ NB155_154.out _; (with_reducible repeat (first | refine blk_drewN ?_ _ | refine blk_drew ?_ | refine blk_alloc ?_ _)); refine blk_far ?_ NB155_154.out _; (with_reducible repeat (first | refine blk_drewN ?_ _ | refine blk_drew ?_ | refine blk_alloc ?_ _)); refine blk_far ?_ NB155_154.out _; (with_reducible repeat (first | refine blk_drewN ?_ _ | refine blk_drew ?_ | refine blk_alloc ?_ _)); refine blk_far ?_ NB155_154.out _; (with_reducible repeat (first | refine blk_drewN ?_ _ | refine blk_drew ?_ | refine blk_alloc ?_ _)); refine blk_far ?_ NB155_154.out _; (with_reducible repeat (first | refine blk_drewN ?_ _ | refine blk_drew ?_ | refine blk_alloc ?_ _)); refine blk_far ?_ NB155_154.out _; (with_reducible repeat (first | refine blk_drewN ?_ _ | refine blk_drew ?_ | refine blk_alloc ?_ _)); refine blk_far ?_ NB155_154.out _; (with_reducible repeat (first | refine blk_drewN ?_ _ | refine blk_drew ?_ | refine blk_alloc ?_ _)); refine blk_far ?_ NB155_154.out _; (with_reducible repeat (first | refine blk_drewN ?_ _ | refine blk_drew ?_ | refine blk_alloc ?_ _)); refine blk_far ?_ NB155_154.out _; (with_reducible repeat (first | refine blk_drewN ?_ _ | refine blk_drew ?_ | refine blk_alloc ?_ _)); exact BK155.out))⟩; have n2_ : Aside0 (Below w.heap.size w w3004) := ⟨(by rw [hw]; exact wB)⟩; clear hw; clear BK154; clear BK155; clear HB; have BK154 := n0_; have BK155 := n1_; have HB := n2_; clear n0_ n1_ n2_))
 refine bodyPost_ret (results_ct rfl _ _ gb154 51 #[.int .i64 0, .int .i64 0, .bool false, .bool false, .int .i64 0, .int .i64 0, .int .i64 0, .int .i64 0, .int .i64 0, .slice none 0 0, .slice none 0 0] (0, 0) _ rfl (Bh BK154) Try.underlying51 rfl (by kernel_rfl)) rfl ?_
 exact ⟨_, _, by first | rfl | (simp [errW_none, errW_some] <;> rfl) | (simp only [← hji1005]; first | rfl | (simp [errW_none, errW_some] <;> rfl)) | (simp [*, errW_none, errW_some] <;> rfl), by first | exact Kd.R_nil _ _ _ _ _ | exact Kd.N_nil _ _ _ _ _ | exact Kd.V_nil _ _ _ _ _ | exact Kd.Q_nil _ _ _ _ _ | exact Kd.S_nil _ _ _ _ _, by first | exact Kd.R_nil _ _ _ _ _ | exact Kd.N_nil _ _ _ _ _ | exact Kd.V_nil _ _ _ _ _ | exact Kd.Q_nil _ _ _ _ _ | exact Kd.S_nil _ _ _ _ _, wB⟩
 }
 all_goals (
 obtain ⟨i03001, hi03001, _, hsz3001, _⟩ := info_parts info5
 obtain ⟨A3001, hcut3001, hA3001, hC3001⟩ := print_mid_of (P := Try.prog) (Value.int .u8) 0 22 5 .i64 .i64 Try.underlying22 hi03001 hsz3001 (some ad156) c0 l0 6 8 (by omega) (by first | omega | exact of_decide_eq_true (by first | (with_reducible assumption) | assumption)) (of_decide_eq_true (by first | (with_reducible assumption) | assumption)) HC0.out
 have HR162 := Aside0.mk (Kd.C_of_reads (h1 := fun _ => rfl) (hA3001 _ (Kd.reads_of_C HR0.out)))
 have HC162 := Aside0.mk hC3001
 clear hA3001 hC3001 hi03001 hsz3001
 try go_wp2_with (first | ((with_reducible refine gate_callee (f := 72) rfl ?_); refine goesL_ (some 55) rfl rfl Try.func72 (by kernel_rfl) rfl #[.slice A3001 ((l0.take 8).drop 6).length (c0 - 6)] rfl (by (try simp only [List.map_toArray, List.map_cons, List.map_nil]); first | done | (rw [show ((l0.take 8).drop 6).length = (8 - 6) from (by rw [List.length_drop, List.length_take]; have h_ : (8 : Int) ≤ (l0.length : Int) := of_decide_eq_true (by first | (with_reducible assumption) | assumption); omega)] <;> rfl) | rfl | (simp only [List.length_drop, List.length_take]; rfl)) ?_; (with_reducible refine (impl_get.calls kj1012 _ _ ((l0.take 8).drop 6) t163 _ ?side1 ?side2 A2007.out).mono ?_); (case side1 => exact Kd.C_below HR162.out wB); (case side2 => exact HC162.out); rintro e w' ⟨rfl, ⟨nd, rfl⟩⟩; refine ⟨_, rfl, ?_⟩; (try (rw [drewN_self wc]; generalize hq_ : World.drewN wc _ = wc; have n0_ := Aside0.mk (blk_at hq_ BK154.out); have n1_ := Aside0.mk (blk_at hq_ BK155.out); have n2_ := Aside0.mk (below_at hq_ HB.out); clear hq_ BK154 BK155 HB; have BK154 := n0_; have BK155 := n1_; have HB := n2_; clear n0_ n1_ n2_; (try (obtain ⟨⟨hcyBK154_0, hcyBK154_1, hcyBK154_2, hcyBK154_3, hcyBK154_4, hcyBK154_5, hcyBK154_6, hcyBK154_7, hcyBK154_8, hcyBK154_9, hcyBK154_10⟩, hfyBK154_0, hfyBK154_1, hfyBK154_2, hfyBK154_3, hfyBK154_4, hfyBK154_5, hfyBK154_6, hfyBK154_7, hfyBK154_8, hfyBK154_9, hfyBK154_10⟩ := cells11 BK154.out)); (try (obtain ⟨⟨hcyBK155_0, hcyBK155_1, hcyBK155_2, hcyBK155_3, hcyBK155_4, hcyBK155_5, hcyBK155_6, hcyBK155_7, hcyBK155_8, hcyBK155_9, hcyBK155_10⟩, hfyBK155_0, hfyBK155_1, hfyBK155_2, hfyBK155_3, hfyBK155_4, hfyBK155_5, hfyBK155_6, hfyBK155_7, hfyBK155_8, hfyBK155_9, hfyBK155_10⟩ := cells11 BK155.out))))))
 have n0_ := Aside0.mk (blk_drew BK154.out)
 have n1_ := Aside0.mk (blk_drew BK155.out)
 have n2_ := Aside0.mk (below_drew1 HB.out)
 clear BK154
 clear BK155
 clear HB
 have BK154 := n0_
 have BK155 := n1_
 have HB := n2_
 clear n0_ n1_ n2_
 have p164 : 0 ≤ (1 : Int) := (by omega)
 have q164 : 1 < (l0.length : Int) := of_decide_eq_true (by first | (with_reducible assumption) | assumption)
 obtain ⟨ad164, e164, hx164_0⟩ := Kd.at_int HR0.out 1 p164 q164
 have hw164_0 := hx164_0
 (try rw [show ((1 : Int)).toNat = 1 from rfl] at hw164_0)
 (try rw [show 1 * 1 = 1 from rfl] at hw164_0)
 (try simp only [Nat.reduceMul, Nat.reduceEqDiff, Go.Addr.add, ↓reduceIte] at hw164_0)
 obtain rfl : ad156 = ad164 := (by injection e164)
 (try simp only [show (1 : Int).toNat = 1 from rfl, Nat.reduceMul, Nat.reduceEqDiff, Go.Addr.add, ↓reduceIte] at hx164_0)
 have qi164 : (1 < l0.length) = True := eq_true (by omega)
 (try rw [show ((1 : Int)).toNat = 1 from rfl] at hx164_0)
 replace hx164_0 := (HB.out.cell (World.block_lt_of_cell? w _ hx164_0)).trans hx164_0
 replace p164 := eq_true p164
 replace q164 := eq_true q164
 obtain ⟨i03003, hi03003, _, hsz3003, _⟩ := info_parts info5
 obtain ⟨A3003, hcut3003, hA3003, hC3003⟩ := print_mid_of (P := Try.prog) (Value.int .u8) 0 22 5 .i64 .i64 Try.underlying22 hi03003 hsz3003 (some ad156) c0 l0 4 6 (by omega) (by first | omega | exact of_decide_eq_true (by first | (with_reducible assumption) | assumption)) (of_decide_eq_true (by first | (with_reducible assumption) | assumption)) HC0.out
 have HR165 := Aside0.mk (Kd.C_of_reads (h1 := fun _ => rfl) (hA3003 _ (Kd.reads_of_C HR0.out)))
 have HC165 := Aside0.mk hC3003
 clear hA3003 hC3003 hi03003 hsz3003
 have p167 : 0 ≤ (8 : Int) := (by omega)
 have q167 : 8 < (l0.length : Int) := of_decide_eq_true (by first | (with_reducible assumption) | assumption)
 obtain ⟨ad167, e167, hx167_0⟩ := Kd.at_int HR0.out 8 p167 q167
 have hw167_0 := hx167_0
 (try rw [show ((8 : Int)).toNat = 8 from rfl] at hw167_0)
 (try rw [show 8 * 1 = 8 from rfl] at hw167_0)
 (try simp only [Nat.reduceMul, Nat.reduceEqDiff, Go.Addr.add, ↓reduceIte] at hw167_0)
 obtain rfl : ad156 = ad167 := (by injection e167)
 (try simp only [show (8 : Int).toNat = 8 from rfl, Nat.reduceMul, Nat.reduceEqDiff, Go.Addr.add, ↓reduceIte] at hx167_0)
 have qi167 : (8 < l0.length) = True := eq_true (by omega)
 (try rw [show ((8 : Int)).toNat = 8 from rfl] at hx167_0)
 replace hx167_0 := (HB.out.cell (World.block_lt_of_cell? w _ hx167_0)).trans hx167_0
 replace p167 := eq_true p167
 replace q167 := eq_true q167
 have p168 : 0 ≤ (9 : Int) := (by omega)
 have q168 : 9 < (l0.length : Int) := of_decide_eq_true (by first | (with_reducible assumption) | assumption)
 obtain ⟨ad168, e168, hx168_0⟩ := Kd.at_int HR0.out 9 p168 q168
 have hw168_0 := hx168_0
 (try rw [show ((9 : Int)).toNat = 9 from rfl] at hw168_0)
 (try rw [show 9 * 1 = 9 from rfl] at hw168_0)
 (try simp only [Nat.reduceMul, Nat.reduceEqDiff, Go.Addr.add, ↓reduceIte] at hw168_0)
 obtain rfl : ad156 = ad168 := (by injection e168)
 (try simp only [show (9 : Int).toNat = 9 from rfl, Nat.reduceMul, Nat.reduceEqDiff, Go.Addr.add, ↓reduceIte] at hx168_0)
 have qi168 : (9 < l0.length) = True := eq_true (by omega)
 (try rw [show ((9 : Int)).toNat = 9 from rfl] at hx168_0)
 replace hx168_0 := (HB.out.cell (World.block_lt_of_cell? w _ hx168_0)).trans hx168_0
 replace p168 := eq_true p168
 replace q168 := eq_true q168
 obtain ⟨i03004, hi03004, _, hsz3004, _⟩ := info_parts info5
 obtain ⟨A3004, hcut3004, hA3004, hC3004⟩ := print_mid_of (P := Try.prog) (Value.int .u8) 0 22 5 .i64 .i64 Try.underlying22 hi03004 hsz3004 (some ad156) c0 l0 12 16 (by omega) (by first | omega | exact of_decide_eq_true (by first | (with_reducible assumption) | assumption)) (of_decide_eq_true (by first | (with_reducible assumption) | assumption)) HC0.out
 have HR169 := Aside0.mk (Kd.C_of_reads (h1 := fun _ => rfl) (hA3004 _ (Kd.reads_of_C HR0.out)))
 have HC169 := Aside0.mk hC3004
 clear hA3004 hC3004 hi03004 hsz3004
 obtain ⟨i03005, hi03005, _, hsz3005, _⟩ := info_parts info5
 obtain ⟨A3005, hcut3005, hA3005, hC3005⟩ := print_mid_of (P := Try.prog) (Value.int .u8) 0 22 5 .i64 .i64 Try.underlying22 hi03005 hsz3005 (some ad156) c0 l0 16 20 (by omega) (by first | omega | exact of_decide_eq_true (by first | (with_reducible assumption) | assumption)) (of_decide_eq_true (by first | (with_reducible assumption) | assumption)) HC0.out
 have HR171 := Aside0.mk (Kd.C_of_reads (h1 := fun _ => rfl) (hA3005 _ (Kd.reads_of_C HR0.out)))
 have HC171 := Aside0.mk hC3005
 clear hA3005 hC3005 hi03005 hsz3005
 refine start_ (n := 35) (S := fun w' => w'.cell? ⟨ad156.block, ad156.off + 1, none⟩ = some (.int .u8 (rd l0 1)) ∧ w'.cell? ⟨ad156.block, ad156.off + 8, none⟩ = some (.int .u8 (rd l0 8)) ∧ w'.cell? ⟨ad156.block, ad156.off + 9, none⟩ = some (.int .u8 (rd l0 9))) (ds := []) #[false, false, false, false, false, false, false, false, false, false, false, false, false, false, false, false, false, false, false, false, false, false, false, false, false, false, false, false, false, false, false, false, false, false, false] (by kernel_rfl) rfl rfl ⟨((HB.out.cell (World.block_lt_of_cell? w _ hw164_0)).trans hw164_0), ((HB.out.cell (World.block_lt_of_cell? w _ hw167_0)).trans hw167_0), ((HB.out.cell (World.block_lt_of_cell? w _ hw168_0)).trans hw168_0)⟩ (fun hHeld => ?_); refine with_tabW impl_DecodeIP.tab15 impl_DecodeIP.bits15 (fun HT_ HW_ => ?_)
 generalize wc.drew = w3002 at BK154 BK155 HB HR165 HR169 HR171 hx164_0 hx167_0 hx168_0 hHeld ⊢
 refine pure_ (i := 0) (N := some 56) (v := ?_) (a' := ?_) #[true, false, false, false, false, false, false, false, false, false, false, false, false, false, false, false, false, false, false, false, false, false, false, false, false, false, false, false, false, false, false, false, false, false, false] rfl rfl (any_of HT_.out (by kernel_rfl)) (fun _ _ _ h => h) (Or.inl ⟨by rfl, ?_⟩) ?_ ?_
 rotate_left
 {
 intro w'
 go_simp
 with_reducible rfl
 }
 rotate_left
 {
 simp only [Act.put, List.setIfInBounds_toArray, List.set_cons_zero, List.set_cons_succ, i64_w, i32_w]
 rfl
 }
 refine pure_ (i := 1) (N := some 57) (v := ?_) (a' := ?_) #[true, true, false, false, false, false, false, false, false, false, false, false, false, false, false, false, false, false, false, false, false, false, false, false, false, false, false, false, false, false, false, false, false, false, false] rfl rfl (any_of HT_.out (by kernel_rfl)) (fun _ _ _ h => h) (Or.inl ⟨by rfl, ?_⟩) ?_ ?_
 rotate_left
 {
 intro w'
 go_simp
 with_reducible rfl
 }
 rotate_left
 {
 simp only [Act.put, List.setIfInBounds_toArray, List.set_cons_zero, List.set_cons_succ, i64_w, i32_w]
 rfl
 }
 refine pure_ (i := 4) (N := some 60) (v := ?_) (a' := ?_) #[true, true, false, false, true, false, false, false, false, false, false, false, false, false, false, false, false, false, false, false, false, false, false, false, false, false, false, false, false, false, false, false, false, false, false] rfl rfl (any_of HT_.out (by kernel_rfl)) (fun _ _ _ h => h) (Or.inl ⟨by rfl, ?_⟩) ?_ ?_
 rotate_left
 {
 intro w'
 go_simp
 with_reducible rfl
 }
 rotate_left
 {
 simp only [Act.put, List.setIfInBounds_toArray, List.set_cons_zero, List.set_cons_succ, i64_w, i32_w]
 rfl
 }
 refine pure_ (i := 5) (N := some 61) (v := ?_) (a' := ?_) #[true, true, false, false, true, true, false, false, false, false, false, false, false, false, false, false, false, false, false, false, false, false, false, false, false, false, false, false, false, false, false, false, false, false, false] rfl rfl (any_of HT_.out (by kernel_rfl)) (fun _ _ _ h => h) (Or.inl ⟨by rfl, ?_⟩) ?_ ?_
 rotate_left
 {
 intro w'
 go_simp
 with_reducible rfl
 }
 rotate_left
 {
 simp only [Act.put, List.setIfInBounds_toArray, List.set_cons_zero, List.set_cons_succ, i64_w, i32_w]
 rfl
 }
 refine pure_ (i := 7) (N := some 63) (v := ?_) (a' := ?_) #[true, true, false, false, true, true, false, true, false, false, false, false, false, false, false, false, false, false, false, false, false, false, false, false, false, false, false, false, false, false, false, false, false, false, false] rfl rfl (any_of HT_.out (by kernel_rfl)) (fun _ _ _ h => h) (Or.inl ⟨by rfl, ?_⟩) ?_ ?_
 rotate_left
 {
 intro w'
 go_simp
 with_reducible rfl
 }
 rotate_left
 {
 simp only [Act.put, List.setIfInBounds_toArray, List.set_cons_zero, List.set_cons_succ, i64_w, i32_w]
 rfl
 }
 refine pure_ (i := 8) (N := some 64) (v := ?_) (a' := ?_) #[true, true, false, false, true, true, false, true, true, false, false, false, false, false, false, false, false, false, false, false, false, false, false, false, false, false, false, false, false, false, false, false, false, false, false] rfl rfl (any_of HT_.out (by kernel_rfl)) (fun _ _ _ h => h) (Or.inl ⟨by rfl, ?_⟩) ?_ ?_
 rotate_left
 {
 intro w'
 go_simp
 with_reducible rfl
 }
 rotate_left
 {
 simp only [Act.put, List.setIfInBounds_toArray, List.set_cons_zero, List.set_cons_succ, i64_w, i32_w]
 rfl
 }
 refine pure_ (i := 9) (N := some 65) (v := ?_) (a' := ?_) #[true, true, false, false, true, true, false, true, true, true, false, false, false, false, false, false, false, false, false, false, false, false, false, false, false, false, false, false, false, false, false, false, false, false, false] rfl rfl (any_of HT_.out (by kernel_rfl)) (fun _ _ _ h => h) (Or.inl ⟨by rfl, ?_⟩) ?_ ?_
 rotate_left
 {
 intro w'
 go_simp
 with_reducible rfl
 }
 rotate_left
 {
 simp only [Act.put, List.setIfInBounds_toArray, List.set_cons_zero, List.set_cons_succ, i64_w, i32_w]
 rfl
 }
 refine pure_ (i := 10) (N := some 66) (v := ?_) (a' := ?_) #[true, true, false, false, true, true, false, true, true, true, true, false, false, false, false, false, false, false, false, false, false, false, false, false, false, false, false, false, false, false, false, false, false, false, false] rfl rfl (any_of HT_.out (by kernel_rfl)) (fun _ _ _ h => h) (Or.inl ⟨by rfl, ?_⟩) ?_ ?_
 rotate_left
 {
 intro w'
 go_simp
 with_reducible rfl
 }
 rotate_left
 {
 simp only [Act.put, List.setIfInBounds_toArray, List.set_cons_zero, List.set_cons_succ, i64_w, i32_w]
 rfl
 }
 refine pure_ (i := 11) (N := some 67) (v := ?_) (a' := ?_) #[true, true, false, false, true, true, false, true, true, true, true, true, false, false, false, false, false, false, false, false, false, false, false, false, false, false, false, false, false, false, false, false, false, false, false] rfl rfl (any_of HT_.out (by kernel_rfl)) (fun _ _ _ h => h) (Or.inl ⟨by rfl, ?_⟩) ?_ ?_
 rotate_left
 {
 intro w'
 go_simp
 with_reducible rfl
 }
 rotate_left
 {
 simp only [Act.put, List.setIfInBounds_toArray, List.set_cons_zero, List.set_cons_succ, i64_w, i32_w]
 rfl
 }
 refine pure_ (i := 12) (N := some 68) (v := ?_) (a' := ?_) #[true, true, false, false, true, true, false, true, true, true, true, true, true, false, false, false, false, false, false, false, false, false, false, false, false, false, false, false, false, false, false, false, false, false, false] rfl rfl (any_of HT_.out (by kernel_rfl)) (fun _ _ _ h => h) (Or.inl ⟨by rfl, ?_⟩) ?_ ?_
 rotate_left
 {
 intro w'
 go_simp
 with_reducible rfl
 }
 rotate_left
 {
 simp only [Act.put, List.setIfInBounds_toArray, List.set_cons_zero, List.set_cons_succ, i64_w, i32_w]
 rfl
 }
 refine pure_ (i := 13) (N := some 69) (v := ?_) (a' := ?_) #[true, true, false, false, true, true, false, true, true, true, true, true, true, true, false, false, false, false, false, false, false, false, false, false, false, false, false, false, false, false, false, false, false, false, false] rfl rfl (any_of HT_.out (by kernel_rfl)) (fun _ _ _ h => h) (Or.inl ⟨by rfl, ?_⟩) ?_ ?_
 rotate_left
 {
 intro w'
 go_simp
 with_reducible rfl
 }
 rotate_left
 {
 simp only [Act.put, List.setIfInBounds_toArray, List.set_cons_zero, List.set_cons_succ, i64_w, i32_w]
 rfl
 }
 refine pure_ (i := 14) (N := some 70) (v := ?_) (a' := ?_) #[true, true, false, false, true, true, false, true, true, true, true, true, true, true, true, false, false, false, false, false, false, false, false, false, false, false, false, false, false, false, false, false, false, false, false] rfl rfl (any_of HT_.out (by kernel_rfl)) (fun _ _ _ h => h) (Or.inl ⟨by rfl, ?_⟩) ?_ ?_
 rotate_left
 {
 intro w'
 go_simp
 with_reducible rfl
 }
 rotate_left
 {
 simp only [Act.put, List.setIfInBounds_toArray, List.set_cons_zero, List.set_cons_succ, i64_w, i32_w]
 rfl
 }
 refine pure_ (i := 15) (N := some 71) (v := ?_) (a' := ?_) #[true, true, false, false, true, true, false, true, true, true, true, true, true, true, true, true, false, false, false, false, false, false, false, false, false, false, false, false, false, false, false, false, false, false, false] rfl rfl (any_of HT_.out (by kernel_rfl)) (fun _ _ _ h => h) (Or.inl ⟨by rfl, ?_⟩) ?_ ?_
 rotate_left
 {
 intro w'
 go_simp
 with_reducible rfl
 }
 rotate_left
 {
 simp only [Act.put, List.setIfInBounds_toArray, List.set_cons_zero, List.set_cons_succ, i64_w, i32_w]
 rfl
 }
 refine pure_ (i := 16) (N := some 72) (v := ?_) (a' := ?_) #[true, true, false, false, true, true, false, true, true, true, true, true, true, true, true, true, true, false, false, false, false, false, false, false, false, false, false, false, false, false, false, false, false, false, false] rfl rfl (any_of HT_.out (by kernel_rfl)) (fun _ _ _ h => h) (Or.inl ⟨by rfl, ?_⟩) ?_ ?_
 rotate_left
 {
 intro w'
 go_simp
 with_reducible rfl
 }
 rotate_left
 {
 simp only [Act.put, List.setIfInBounds_toArray, List.set_cons_zero, List.set_cons_succ, i64_w, i32_w]
 rfl
 }
 refine pure_ (i := 17) (N := some 73) (v := ?_) (a' := ?_) #[true, true, false, false, true, true, false, true, true, true, true, true, true, true, true, true, true, true, false, false, false, false, false, false, false, false, false, false, false, false, false, false, false, false, false] rfl rfl (any_of HT_.out (by kernel_rfl)) (fun _ _ _ h => h) (Or.inl ⟨by rfl, ?_⟩) ?_ ?_
 rotate_left
 {
 intro w'
 go_simp
 with_reducible rfl
 }
 rotate_left
 {
 simp only [Act.put, List.setIfInBounds_toArray, List.set_cons_zero, List.set_cons_succ, i64_w, i32_w]
 rfl
 }
 refine pure_ (i := 18) (N := some 74) (v := ?_) (a' := ?_) #[true, true, false, false, true, true, false, true, true, true, true, true, true, true, true, true, true, true, true, false, false, false, false, false, false, false, false, false, false, false, false, false, false, false, false] rfl rfl (any_of HT_.out (by kernel_rfl)) (fun _ _ _ h => h) (Or.inl ⟨by rfl, ?_⟩) ?_ ?_
 rotate_left
 {
 intro w'
 go_simp
 with_reducible rfl
 }
 rotate_left
 {
 simp only [Act.put, List.setIfInBounds_toArray, List.set_cons_zero, List.set_cons_succ, i64_w, i32_w]
 rfl
 }
 refine pure_ (i := 19) (N := some 75) (v := ?_) (a' := ?_) #[true, true, false, false, true, true, false, true, true, true, true, true, true, true, true, true, true, true, true, true, false, false, false, false, false, false, false, false, false, false, false, false, false, false, false] rfl rfl (any_of HT_.out (by kernel_rfl)) (fun _ _ _ h => h) (Or.inl ⟨by rfl, ?_⟩) ?_ ?_
 rotate_left
 {
 intro w'
 go_simp
 with_reducible rfl
 }
 rotate_left
 {
 simp only [Act.put, List.setIfInBounds_toArray, List.set_cons_zero, List.set_cons_succ, i64_w, i32_w]
 rfl
 }
 refine pure_ (i := 22) (N := some 78) (v := ?_) (a' := ?_) #[true, true, false, false, true, true, false, true, true, true, true, true, true, true, true, true, true, true, true, true, false, false, true, false, false, false, false, false, false, false, false, false, false, false, false] rfl rfl (any_of HT_.out (by kernel_rfl)) (fun _ _ _ h => h) (Or.inl ⟨by rfl, ?_⟩) ?_ ?_
 rotate_left
 {
 intro w'
 go_simp
 with_reducible rfl
 }
 rotate_left
 {
 simp only [Act.put, List.setIfInBounds_toArray, List.set_cons_zero, List.set_cons_succ, i64_w, i32_w]
 rfl
 }
 refine pure_ (i := 23) (N := some 79) (v := ?_) (a' := ?_) #[true, true, false, false, true, true, false, true, true, true, true, true, true, true, true, true, true, true, true, true, false, false, true, true, false, false, false, false, false, false, false, false, false, false, false] rfl rfl (any_of HT_.out (by kernel_rfl)) (fun _ _ _ h => h) (Or.inl ⟨by rfl, ?_⟩) ?_ ?_
 rotate_left
 {
 intro w'
 go_simp
 with_reducible rfl
 }
 rotate_left
 {
 simp only [Act.put, List.setIfInBounds_toArray, List.set_cons_zero, List.set_cons_succ, i64_w, i32_w]
 rfl
 }
 refine pure_ (i := 26) (N := some 82) (v := ?_) (a' := ?_) #[true, true, false, false, true, true, false, true, true, true, true, true, true, true, true, true, true, true, true, true, false, false, true, true, false, false, true, false, false, false, false, false, false, false, false] rfl rfl (any_of HT_.out (by kernel_rfl)) (fun _ _ _ h => h) (Or.inl ⟨by rfl, ?_⟩) ?_ ?_
 rotate_left
 {
 intro w'
 go_simp
 with_reducible rfl
 }
 rotate_left
 {
 simp only [Act.put, List.setIfInBounds_toArray, List.set_cons_zero, List.set_cons_succ, i64_w, i32_w]
 rfl
 }
 refine pure_ (i := 27) (N := some 83) (v := ?_) (a' := ?_) #[true, true, false, false, true, true, false, true, true, true, true, true, true, true, true, true, true, true, true, true, false, false, true, true, false, false, true, true, false, false, false, false, false, false, false] rfl rfl (any_of HT_.out (by kernel_rfl)) (fun _ _ _ h => h) (Or.inl ⟨by rfl, ?_⟩) ?_ ?_
 rotate_left
 {
 intro w'
 go_simp
 with_reducible rfl
 }
 rotate_left
 {
 simp only [Act.put, List.setIfInBounds_toArray, List.set_cons_zero, List.set_cons_succ, i64_w, i32_w]
 rfl
 }
 refine pure_ (i := 29) (N := some 85) (v := ?_) (a' := ?_) #[true, true, false, false, true, true, false, true, true, true, true, true, true, true, true, true, true, true, true, true, false, false, true, true, false, false, true, true, false, true, false, false, false, false, false] rfl rfl (any_of HT_.out (by kernel_rfl)) (fun _ _ _ h => h) (Or.inl ⟨by rfl, ?_⟩) ?_ ?_
 rotate_left
 {
 intro w'
 go_simp
 with_reducible rfl
 }
 rotate_left
 {
 simp only [Act.put, List.setIfInBounds_toArray, List.set_cons_zero, List.set_cons_succ, i64_w, i32_w]
 rfl
 }
 refine pure_ (i := 30) (N := some 86) (v := ?_) (a' := ?_) #[true, true, false, false, true, true, false, true, true, true, true, true, true, true, true, true, true, true, true, true, false, false, true, true, false, false, true, true, false, true, true, false, false, false, false] rfl rfl (any_of HT_.out (by kernel_rfl)) (fun _ _ _ h => h) (Or.inl ⟨by rfl, ?_⟩) ?_ ?_
 rotate_left
 {
 intro w'
 go_simp
 with_reducible rfl
 }
 rotate_left
 {
 simp only [Act.put, List.setIfInBounds_toArray, List.set_cons_zero, List.set_cons_succ, i64_w, i32_w]
 rfl
 }
 refine take_ (i := 2) (N := some 58) (v := ?_) (a' := ?_) #[true, true, true, false, true, true, false, true, true, true, true, true, true, true, true, true, true, true, true, true, false, false, true, true, false, false, true, true, false, true, true, false, false, false, false] rfl rfl (take_ofW HT_.out HW_.out (by kernel_rfl)) (fun _ _ _ h => h) (Or.inl ⟨by rfl, ?_⟩) hHeld ?_ ?_
 rotate_left
 {
 rintro w' ⟨s0, s1, s2⟩
 go_simp
 with_reducible rfl
 }
 rotate_left
 {
 simp only [Act.put, List.setIfInBounds_toArray, List.set_cons_zero, List.set_cons_succ, i64_w, i32_w]
 rfl
 }
 refine pure_ (i := 3) (N := some 59) (v := ?_) (a' := ?_) #[true, true, true, true, true, true, false, true, true, true, true, true, true, true, true, true, true, true, true, true, false, false, true, true, false, false, true, true, false, true, true, false, false, false, false] rfl rfl (any_of HT_.out (by kernel_rfl)) (fun _ _ _ h => h) (Or.inl ⟨by rfl, ?_⟩) ?_ ?_
 rotate_left
 {
 intro w'
 go_simp
 with_reducible rfl
 }
 rotate_left
 {
 simp only [Act.put, List.setIfInBounds_toArray, List.set_cons_zero, List.set_cons_succ, i64_w, i32_w]
 rfl
 }
 refine take_ (i := 20) (N := some 76) (v := ?_) (a' := ?_) #[true, true, true, true, true, true, false, true, true, true, true, true, true, true, true, true, true, true, true, true, true, false, true, true, false, false, true, true, false, true, true, false, false, false, false] rfl rfl (take_ofW HT_.out HW_.out (by kernel_rfl)) (fun _ _ _ h => h) (Or.inl ⟨by rfl, ?_⟩) hHeld ?_ ?_
 rotate_left
 {
 rintro w' ⟨s0, s1, s2⟩
 go_simp
 with_reducible rfl
 }
 rotate_left
 {
 simp only [Act.put, List.setIfInBounds_toArray, List.set_cons_zero, List.set_cons_succ, i64_w, i32_w]
 rfl
 }
 refine pure_ (i := 21) (N := some 77) (v := ?_) (a' := ?_) #[true, true, true, true, true, true, false, true, true, true, true, true, true, true, true, true, true, true, true, true, true, true, true, true, false, false, true, true, false, true, true, false, false, false, false] rfl rfl (any_of HT_.out (by kernel_rfl)) (fun _ _ _ h => h) (Or.inl ⟨by rfl, ?_⟩) ?_ ?_
 rotate_left
 {
 intro w'
 go_simp
 with_reducible rfl
 }
 rotate_left
 {
 simp only [Act.put, List.setIfInBounds_toArray, List.set_cons_zero, List.set_cons_succ, i64_w, i32_w]
 rfl
 }
 refine take_ (i := 24) (N := some 80) (v := ?_) (a' := ?_) #[true, true, true, true, true, true, false, true, true, true, true, true, true, true, true, true, true, true, true, true, true, true, true, true, true, false, true, true, false, true, true, false, false, false, false] rfl rfl (take_ofW HT_.out HW_.out (by kernel_rfl)) (fun _ _ _ h => h) (Or.inl ⟨by rfl, ?_⟩) hHeld ?_ ?_
 rotate_left
 {
 rintro w' ⟨s0, s1, s2⟩
 go_simp
 with_reducible rfl
 }
 rotate_left
 {
 simp only [Act.put, List.setIfInBounds_toArray, List.set_cons_zero, List.set_cons_succ, i64_w, i32_w]
 rfl
 }
 refine pure_ (i := 25) (N := some 81) (v := ?_) (a' := ?_) #[true, true, true, true, true, true, false, true, true, true, true, true, true, true, true, true, true, true, true, true, true, true, true, true, true, true, true, true, false, true, true, false, false, false, false] rfl rfl (any_of HT_.out (by kernel_rfl)) (fun _ _ _ h => h) (Or.inl ⟨by rfl, ?_⟩) ?_ ?_
 rotate_left
 {
 intro w'
 go_simp
 with_reducible rfl
 }
 rotate_left
 {
 simp only [Act.put, List.setIfInBounds_toArray, List.set_cons_zero, List.set_cons_succ, i64_w, i32_w]
 rfl
 }
 refine join_ (σ := Nat) 1 #[true, true, true, true, true, true, true, true, true, true, true, true, true, true, true, true, true, true, true, true, true, true, true, true, true, true, true, true, true, true, true, true, true, true, false] (fun s_ => [(62, .int .i64 t166), (84, .int .i64 t170), (87, .int .i64 t172), (8, .pointer (some ⟨s_, 0, none⟩)), (88, .agg #[.int .i64 (wrap64 (rd l0 1)), .int .i64 t166, .bool ((Go.bits .and .i64 (t163 / 16384) 1) == 1), .bool ((Go.bits .and .i64 (t163 / 8192) 1) == 1), .int .i64 (wrap64 ((Go.bits .and .i64 t163 8191) * 8)), .int .i64 (wrap64 (rd l0 8)), .int .i64 (wrap64 (rd l0 9)), .int .i64 t170, .int .i64 t172, .slice none 0 0, .slice none 0 0])]) (fun s_ w' => (w'.cell? ⟨ad156.block, ad156.off + 1, none⟩ = some (.int .u8 (rd l0 1)) ∧ w'.cell? ⟨ad156.block, ad156.off + 8, none⟩ = some (.int .u8 (rd l0 8)) ∧ w'.cell? ⟨ad156.block, ad156.off + 9, none⟩ = some (.int .u8 (rd l0 9))) ∧ (w'.heap[gb154]? = some (.cells #[.int .i64 0, .int .i64 0, .bool false, .bool false, .int .i64 0, .int .i64 0, .int .i64 0, .int .i64 0, .int .i64 0, .slice none 0 0, .slice none 0 0] 51 (0, 0))) ∧ (w'.heap[gb155]? = some (.cells #[.int .i64 0, .int .i64 0, .bool false, .bool false, .int .i64 0, .int .i64 0, .int .i64 0, .int .i64 0, .int .i64 0, .slice none 0 0, .slice none 0 0] 51 (0, 0))) ∧ (w'.heap[s_]? = some (.cells #[.int .i64 0, .int .i64 0, .bool false, .bool false, .int .i64 0, .int .i64 0, .int .i64 0, .int .i64 0, .int .i64 0, .slice none 0 0, .slice none 0 0] 51 (0, 0))) ∧ (w.heap.size ≤ s_) ∧ (w.heap.size ≤ s_) ∧ (gb154 ≠ s_) ∧ (s_ ≠ gb154) ∧ (gb155 ≠ s_) ∧ (s_ ≠ gb155) ∧ (Below w.heap.size w w')) ?_ ?_
 rotate_left
 {
 intro hCont
 refine two_ (i := 6) (j := 33) (Ni := some 62) (Nj := some 8) #[true, true, true, true, true, true, true, true, true, true, true, true, true, true, true, true, true, true, true, true, true, true, true, true, true, true, true, true, false, true, true, false, false, false, false] #[true, true, true, true, true, true, false, true, true, true, true, true, true, true, true, true, true, true, true, true, true, true, true, true, true, true, true, true, false, true, true, false, false, true, false] rfl rfl rfl rfl (two_of HT_.out (by kernel_rfl)) (by decide) (by decide) (fun K hK => ?_) (fun K hK => ?_)
 {
 skip
 refine goes_ Try.func72 (by kernel_rfl) rfl #[.slice A3003 ((l0.take 6).drop 4).length (c0 - 4)] (by rfl) rfl rfl (by (try simp only [List.map_toArray, List.map_cons, List.map_nil]); first | done | (rw [show ((l0.take 6).drop 4).length = (6 - 4) from (by rw [List.length_drop, List.length_take]; have h_ : (6 : Int) ≤ (l0.length : Int) := of_decide_eq_true (by first | (with_reducible assumption) | assumption); omega)] <;> rfl) | rfl | (simp only [List.length_drop, List.length_take]; rfl)) ?_
 with_reducible refine (impl_get.calls kj1012 _ _ ((l0.take 6).drop 4) t166 _ ?side1 ?side2 A2011.out).mono ?_
 (case side1 => exact Kd.C_below HR165.out wB)
 (case side2 => exact HC165.out)
 rintro e w' ⟨rfl, ⟨nd, rfl⟩⟩
 refine ⟨_, rfl, ?_⟩
 refine hK.out _ _ ⟨((HB.out.cell (World.block_lt_of_cell? w _ hw164_0)).trans hw164_0), ((HB.out.cell (World.block_lt_of_cell? w _ hw167_0)).trans hw167_0), ((HB.out.cell (World.block_lt_of_cell? w _ hw168_0)).trans hw168_0)⟩ (fun hHeld => ?_)
 clear hK K
 refine norm_ (a' := ?_) ?_ ?_
 rotate_left
 {
 show Act.put _ (some 62) _ = _
 simp only [Act.put, List.setIfInBounds_toArray, List.set_cons_zero, List.set_cons_succ, i64_w, i32_w]
 rfl
 }
 refine two_ (i := 28) (j := 33) (Ni := some 84) (Nj := some 8) #[true, true, true, true, true, true, true, true, true, true, true, true, true, true, true, true, true, true, true, true, true, true, true, true, true, true, true, true, true, true, true, false, false, false, false] #[true, true, true, true, true, true, true, true, true, true, true, true, true, true, true, true, true, true, true, true, true, true, true, true, true, true, true, true, false, true, true, false, false, true, false] rfl rfl rfl rfl (two_of HT_.out (by kernel_rfl)) (by decide) (by decide) (fun K hK => ?_) (fun K hK => ?_)
 {
 skip
 refine goes_ Try.func72 (by kernel_rfl) rfl #[.slice A3004 ((l0.take 16).drop 12).length (c0 - 12)] (by rfl) rfl rfl (by (try simp only [List.map_toArray, List.map_cons, List.map_nil]); first | done | (rw [show ((l0.take 16).drop 12).length = (16 - 12) from (by rw [List.length_drop, List.length_take]; have h_ : (16 : Int) ≤ (l0.length : Int) := of_decide_eq_true (by first | (with_reducible assumption) | assumption); omega)] <;> rfl) | rfl | (simp only [List.length_drop, List.length_take]; rfl)) ?_
 with_reducible refine (impl_get.calls kj1012 _ _ ((l0.take 16).drop 12) t170 _ ?side1 ?side2 A2016.out).mono ?_
 (case side1 => repeat (first | exact (Kd.C_below HR169.out wB) | (with_reducible refine Kd.C_alloc ?_ _) | (with_reducible refine Kd.C_drewN ?_ _) | (with_reducible refine Kd.C_drew ?_)))
 (case side2 => exact HC169.out)
 rintro e w' ⟨rfl, ⟨nd, rfl⟩⟩
 refine ⟨_, rfl, ?_⟩
 refine hK.out _ _ ⟨((HB.out.cell (World.block_lt_of_cell? w _ hw164_0)).trans hw164_0), ((HB.out.cell (World.block_lt_of_cell? w _ hw167_0)).trans hw167_0), ((HB.out.cell (World.block_lt_of_cell? w _ hw168_0)).trans hw168_0)⟩ (fun hHeld => ?_)
 clear hK K
 refine norm_ (a' := ?_) ?_ ?_
 rotate_left
 {
 show Act.put _ (some 84) _ = _
 simp only [Act.put, List.setIfInBounds_toArray, List.set_cons_zero, List.set_cons_succ, i64_w, i32_w]
 rfl
 }
 refine two_ (i := 31) (j := 33) (Ni := some 87) (Nj := some 8) #[true, true, true, true, true, true, true, true, true, true, true, true, true, true, true, true, true, true, true, true, true, true, true, true, true, true, true, true, true, true, true, true, false, false, false] #[true, true, true, true, true, true, true, true, true, true, true, true, true, true, true, true, true, true, true, true, true, true, true, true, true, true, true, true, true, true, true, false, false, true, false] rfl rfl rfl rfl (two_of HT_.out (by kernel_rfl)) (by decide) (by decide) (fun K hK => ?_) (fun K hK => ?_)
 {
 skip
 refine goes_ Try.func72 (by kernel_rfl) rfl #[.slice A3005 ((l0.take 20).drop 16).length (c0 - 16)] (by rfl) rfl rfl (by (try simp only [List.map_toArray, List.map_cons, List.map_nil]); first | done | (rw [show ((l0.take 20).drop 16).length = (20 - 16) from (by rw [List.length_drop, List.length_take]; have h_ : (20 : Int) ≤ (l0.length : Int) := of_decide_eq_true (by first | (with_reducible assumption) | assumption); omega)] <;> rfl) | rfl | (simp only [List.length_drop, List.length_take]; rfl)) ?_
 with_reducible refine (impl_get.calls kj1012 _ _ ((l0.take 20).drop 16) t172 _ ?side1 ?side2 A2019.out).mono ?_
 (case side1 => repeat (first | exact (Kd.C_below HR171.out wB) | (with_reducible refine Kd.C_alloc ?_ _) | (with_reducible refine Kd.C_drewN ?_ _) | (with_reducible refine Kd.C_drew ?_)))
 (case side2 => exact HC171.out)
 rintro e w' ⟨rfl, ⟨nd, rfl⟩⟩
 refine ⟨_, rfl, ?_⟩
 refine hK.out _ _ ⟨((HB.out.cell (World.block_lt_of_cell? w _ hw164_0)).trans hw164_0), ((HB.out.cell (World.block_lt_of_cell? w _ hw167_0)).trans hw167_0), ((HB.out.cell (World.block_lt_of_cell? w _ hw168_0)).trans hw168_0)⟩ (fun hHeld => ?_)
 clear hK K
 refine norm_ (a' := ?_) ?_ ?_
 rotate_left
 {
 show Act.put _ (some 87) _ = _
 simp only [Act.put, List.setIfInBounds_toArray, List.set_cons_zero, List.set_cons_succ, i64_w, i32_w]
 rfl
 }
 refine pure_ (i := 32) (N := some 88) (v := ?_) (a' := ?_) #[true, true, true, true, true, true, true, true, true, true, true, true, true, true, true, true, true, true, true, true, true, true, true, true, true, true, true, true, true, true, true, true, true, false, false] rfl rfl (any_of HT_.out (by kernel_rfl)) (fun _ _ _ h => h) (Or.inl ⟨by rfl, ?_⟩) ?_ ?_
 rotate_left
 {
 intro w'
 go_simp
 with_reducible rfl
 }
 rotate_left
 {
 simp only [Act.put, List.setIfInBounds_toArray, List.set_cons_zero, List.set_cons_succ, i64_w, i32_w]
 rfl
 }
 refine one_ (i := 33) (N := some 8) #[true, true, true, true, true, true, true, true, true, true, true, true, true, true, true, true, true, true, true, true, true, true, true, true, true, true, true, true, true, true, true, true, true, true, false] rfl rfl (one_of HT_.out (by kernel_rfl)) (by decide) (fun K hK => ?_)
 refine box_step ?hg (N := 8) ?hd (cs := #[.int .i64 0, .int .i64 0, .bool false, .bool false, .int .i64 0, .int .i64 0, .int .i64 0, .int .i64 0, .int .i64 0, .slice none 0 0, .slice none 0 0]) (t := 51) ?hr ?_; (case hd => rfl); (case hg => rfl); (case hr => first | (go_simp; done) | (go_simp; rfl))
 intro gb173 hg w3006 hbox hb
 have n0_ := Aside0.mk (blk_below (Bh BK154) hb)
 have n1_ := Aside0.mk (blk_below (Bh BK155) hb)
 have n2_ := Aside0.mk (below_step wB hb)
 have n3_ := Aside0.mk (hbox)
 have n4_ := Aside0.mk ((by rw [hg]; exact (below_size wB) : w.heap.size ≤ gb173))
 have n5_ := Aside0.mk ((by rw [hg]; exact (below_size wB) : w.heap.size ≤ gb173))
 have n6_ := Aside0.mk ((by rw [hg]; exact Nat.ne_of_lt (blk_lt (Bh BK154)) : gb154 ≠ gb173))
 have n7_ := Aside0.mk ((by rw [hg]; exact Nat.ne_of_gt (blk_lt (Bh BK154)) : gb173 ≠ gb154))
 have n8_ := Aside0.mk ((by rw [hg]; exact Nat.ne_of_lt (blk_lt (Bh BK155)) : gb155 ≠ gb173))
 have n9_ := Aside0.mk ((by rw [hg]; exact Nat.ne_of_gt (blk_lt (Bh BK155)) : gb173 ≠ gb155))
 clear BK154
 clear BK155
 clear HB
 have BK154 := n0_
 have BK155 := n1_
 have HB := n2_
 have BK173 := n3_
 have GW173 := n4_
 have GE173 := n5_
 have NB154_173 := n6_
 have NB173_154 := n7_
 have NB155_173 := n8_
 have NB173_155 := n9_
 clear n0_ n1_ n2_ n3_ n4_ n5_ n6_ n7_ n8_ n9_
 clear hb hbox hg
 refine hK.out _ _ ⟨((HB.out.cell (World.block_lt_of_cell? w _ hw164_0)).trans hw164_0), ((HB.out.cell (World.block_lt_of_cell? w _ hw167_0)).trans hw167_0), ((HB.out.cell (World.block_lt_of_cell? w _ hw168_0)).trans hw168_0)⟩ (fun hHeld => ?_)
 clear hK K
 refine norm_ (a' := ?_) ?_ ?_
 rotate_left
 {
 show Act.put _ (some 8) _ = _
 simp only [Act.put, List.setIfInBounds_toArray, List.set_cons_zero, List.set_cons_succ, i64_w, i32_w]
 rfl
 }
 exact norm_ (by simp only [putAll, Act.put, List.setIfInBounds_toArray, List.set_cons_zero, List.set_cons_succ]) (hCont (gb173) _ ⟨hHeld, (Bh BK154), (Bh BK155), (Bh BK173), GW173.out, GE173.out, NB154_173.out, NB173_154.out, NB155_173.out, NB173_155.out, wB⟩)
 }
 {
 skip
 refine box_step ?hg (N := 8) ?hd (cs := #[.int .i64 0, .int .i64 0, .bool false, .bool false, .int .i64 0, .int .i64 0, .int .i64 0, .int .i64 0, .int .i64 0, .slice none 0 0, .slice none 0 0]) (t := 51) ?hr ?_; (case hd => rfl); (case hg => rfl); (case hr => first | (go_simp; done) | (go_simp; rfl))
 intro gb173 hg w3006 hbox hb
 have n0_ := Aside0.mk (blk_below (Bh BK154) hb)
 have n1_ := Aside0.mk (blk_below (Bh BK155) hb)
 have n2_ := Aside0.mk (below_step wB hb)
 have n3_ := Aside0.mk (hbox)
 have n4_ := Aside0.mk ((by rw [hg]; exact (below_size wB) : w.heap.size ≤ gb173))
 have n5_ := Aside0.mk ((by rw [hg]; exact (below_size wB) : w.heap.size ≤ gb173))
 have n6_ := Aside0.mk ((by rw [hg]; exact Nat.ne_of_lt (blk_lt (Bh BK154)) : gb154 ≠ gb173))
 have n7_ := Aside0.mk ((by rw [hg]; exact Nat.ne_of_gt (blk_lt (Bh BK154)) : gb173 ≠ gb154))
 have n8_ := Aside0.mk ((by rw [hg]; exact Nat.ne_of_lt (blk_lt (Bh BK155)) : gb155 ≠ gb173))
 have n9_ := Aside0.mk ((by rw [hg]; exact Nat.ne_of_gt (blk_lt (Bh BK155)) : gb173 ≠ gb155))
 clear BK154
 clear BK155
 clear HB
 have BK154 := n0_
 have BK155 := n1_
 have HB := n2_
 have BK173 := n3_
 have GW173 := n4_
 have GE173 := n5_
 have NB154_173 := n6_
 have NB173_154 := n7_
 have NB155_173 := n8_
 have NB173_155 := n9_
 clear n0_ n1_ n2_ n3_ n4_ n5_ n6_ n7_ n8_ n9_
 clear hb hbox hg
 refine hK.out _ _ ⟨((HB.out.cell (World.block_lt_of_cell? w _ hw164_0)).trans hw164_0), ((HB.out.cell (World.block_lt_of_cell? w _ hw167_0)).trans hw167_0), ((HB.out.cell (World.block_lt_of_cell? w _ hw168_0)).trans hw168_0)⟩ (fun hHeld => ?_)
 clear hK K
 refine norm_ (a' := ?_) ?_ ?_
 rotate_left
 {
 show Act.put _ (some 8) _ = _
 simp only [Act.put, List.setIfInBounds_toArray, List.set_cons_zero, List.set_cons_succ, i64_w, i32_w]
 rfl
 }
 refine one_ (i := 31) (N := some 87) #[true, true, true, true, true, true, true, true, true, true, true, true, true, true, true, true, true, true, true, true, true, true, true, true, true, true, true, true, true, true, true, true, false, true, false] rfl rfl (one_of HT_.out (by kernel_rfl)) (by decide) (fun K hK => ?_)
 refine goes_ Try.func72 (by kernel_rfl) rfl #[.slice A3005 ((l0.take 20).drop 16).length (c0 - 16)] (by rfl) rfl rfl (by (try simp only [List.map_toArray, List.map_cons, List.map_nil]); first | done | (rw [show ((l0.take 20).drop 16).length = (20 - 16) from (by rw [List.length_drop, List.length_take]; have h_ : (20 : Int) ≤ (l0.length : Int) := of_decide_eq_true (by first | (with_reducible assumption) | assumption); omega)] <;> rfl) | rfl | (simp only [List.length_drop, List.length_take]; rfl)) ?_
 with_reducible refine (impl_get.calls kj1012 _ _ ((l0.take 20).drop 16) t172 _ ?side1 ?side2 A2019.out).mono ?_
 (case side1 => exact Kd.C_below HR171.out wB)
 (case side2 => exact HC171.out)
 rintro e w' ⟨rfl, ⟨nd, rfl⟩⟩
 refine ⟨_, rfl, ?_⟩
 refine hK.out _ _ ⟨((HB.out.cell (World.block_lt_of_cell? w _ hw164_0)).trans hw164_0), ((HB.out.cell (World.block_lt_of_cell? w _ hw167_0)).trans hw167_0), ((HB.out.cell (World.block_lt_of_cell? w _ hw168_0)).trans hw168_0)⟩ (fun hHeld => ?_)
 clear hK K
 refine norm_ (a' := ?_) ?_ ?_
 rotate_left
 {
 show Act.put _ (some 87) _ = _
 simp only [Act.put, List.setIfInBounds_toArray, List.set_cons_zero, List.set_cons_succ, i64_w, i32_w]
 rfl
 }
 refine pure_ (i := 32) (N := some 88) (v := ?_) (a' := ?_) #[true, true, true, true, true, true, true, true, true, true, true, true, true, true, true, true, true, true, true, true, true, true, true, true, true, true, true, true, true, true, true, true, true, true, false] rfl rfl (any_of HT_.out (by kernel_rfl)) (fun _ _ _ h => h) (Or.inl ⟨by rfl, ?_⟩) ?_ ?_
 rotate_left
 {
 intro w'
 go_simp
 with_reducible rfl
 }
 rotate_left
 {
 simp only [Act.put, List.setIfInBounds_toArray, List.set_cons_zero, List.set_cons_succ, i64_w, i32_w]
 rfl
 }
 exact norm_ (by simp only [putAll, Act.put, List.setIfInBounds_toArray, List.set_cons_zero, List.set_cons_succ]) (hCont (gb173) _ ⟨hHeld, (Bh BK154), (Bh BK155), (Bh BK173), GW173.out, GE173.out, NB154_173.out, NB173_154.out, NB155_173.out, NB173_155.out, wB⟩)
 }
 }
 {
 skip
 refine box_step ?hg (N := 8) ?hd (cs := #[.int .i64 0, .int .i64 0, .bool false, .bool false, .int .i64 0, .int .i64 0, .int .i64 0, .int .i64 0, .int .i64 0, .slice none 0 0, .slice none 0 0]) (t := 51) ?hr ?_; (case hd => rfl); (case hg => rfl); (case hr => first | (go_simp; done) | (go_simp; rfl))
 intro gb173 hg w3006 hbox hb
 have n0_ := Aside0.mk (blk_below (Bh BK154) hb)
 have n1_ := Aside0.mk (blk_below (Bh BK155) hb)
 have n2_ := Aside0.mk (below_step wB hb)
 have n3_ := Aside0.mk (hbox)
 have n4_ := Aside0.mk ((by rw [hg]; exact (below_size wB) : w.heap.size ≤ gb173))
 have n5_ := Aside0.mk ((by rw [hg]; exact (below_size wB) : w.heap.size ≤ gb173))
 have n6_ := Aside0.mk ((by rw [hg]; exact Nat.ne_of_lt (blk_lt (Bh BK154)) : gb154 ≠ gb173))
 have n7_ := Aside0.mk ((by rw [hg]; exact Nat.ne_of_gt (blk_lt (Bh BK154)) : gb173 ≠ gb154))
 have n8_ := Aside0.mk ((by rw [hg]; exact Nat.ne_of_lt (blk_lt (Bh BK155)) : gb155 ≠ gb173))
 have n9_ := Aside0.mk ((by rw [hg]; exact Nat.ne_of_gt (blk_lt (Bh BK155)) : gb173 ≠ gb155))
 clear BK154
 clear BK155
 clear HB
 have BK154 := n0_
 have BK155 := n1_
 have HB := n2_
 have BK173 := n3_
 have GW173 := n4_
 have GE173 := n5_
 have NB154_173 := n6_
 have NB173_154 := n7_
 have NB155_173 := n8_
 have NB173_155 := n9_
 clear n0_ n1_ n2_ n3_ n4_ n5_ n6_ n7_ n8_ n9_
 clear hb hbox hg
 refine hK.out _ _ ⟨((HB.out.cell (World.block_lt_of_cell? w _ hw164_0)).trans hw164_0), ((HB.out.cell (World.block_lt_of_cell? w _ hw167_0)).trans hw167_0), ((HB.out.cell (World.block_lt_of_cell? w _ hw168_0)).trans hw168_0)⟩ (fun hHeld => ?_)
 clear hK K
 refine norm_ (a' := ?_) ?_ ?_
 rotate_left
 {
 show Act.put _ (some 8) _ = _
 simp only [Act.put, List.setIfInBounds_toArray, List.set_cons_zero, List.set_cons_succ, i64_w, i32_w]
 rfl
 }
 refine one_ (i := 28) (N := some 84) #[true, true, true, true, true, true, true, true, true, true, true, true, true, true, true, true, true, true, true, true, true, true, true, true, true, true, true, true, true, true, true, false, false, true, false] rfl rfl (one_of HT_.out (by kernel_rfl)) (by decide) (fun K hK => ?_)
 refine goes_ Try.func72 (by kernel_rfl) rfl #[.slice A3004 ((l0.take 16).drop 12).length (c0 - 12)] (by rfl) rfl rfl (by (try simp only [List.map_toArray, List.map_cons, List.map_nil]); first | done | (rw [show ((l0.take 16).drop 12).length = (16 - 12) from (by rw [List.length_drop, List.length_take]; have h_ : (16 : Int) ≤ (l0.length : Int) := of_decide_eq_true (by first | (with_reducible assumption) | assumption); omega)] <;> rfl) | rfl | (simp only [List.length_drop, List.length_take]; rfl)) ?_
 with_reducible refine (impl_get.calls kj1012 _ _ ((l0.take 16).drop 12) t170 _ ?side1 ?side2 A2016.out).mono ?_
 (case side1 => exact Kd.C_below HR169.out wB)
 (case side2 => exact HC169.out)
 rintro e w' ⟨rfl, ⟨nd, rfl⟩⟩
 refine ⟨_, rfl, ?_⟩
 refine hK.out _ _ ⟨((HB.out.cell (World.block_lt_of_cell? w _ hw164_0)).trans hw164_0), ((HB.out.cell (World.block_lt_of_cell? w _ hw167_0)).trans hw167_0), ((HB.out.cell (World.block_lt_of_cell? w _ hw168_0)).trans hw168_0)⟩ (fun hHeld => ?_)
 clear hK K
 refine norm_ (a' := ?_) ?_ ?_
 rotate_left
 {
 show Act.put _ (some 84) _ = _
 simp only [Act.put, List.setIfInBounds_toArray, List.set_cons_zero, List.set_cons_succ, i64_w, i32_w]
 rfl
 }
 refine one_ (i := 31) (N := some 87) #[true, true, true, true, true, true, true, true, true, true, true, true, true, true, true, true, true, true, true, true, true, true, true, true, true, true, true, true, true, true, true, true, false, true, false] rfl rfl (one_of HT_.out (by kernel_rfl)) (by decide) (fun K hK => ?_)
 refine goes_ Try.func72 (by kernel_rfl) rfl #[.slice A3005 ((l0.take 20).drop 16).length (c0 - 16)] (by rfl) rfl rfl (by (try simp only [List.map_toArray, List.map_cons, List.map_nil]); first | done | (rw [show ((l0.take 20).drop 16).length = (20 - 16) from (by rw [List.length_drop, List.length_take]; have h_ : (20 : Int) ≤ (l0.length : Int) := of_decide_eq_true (by first | (with_reducible assumption) | assumption); omega)] <;> rfl) | rfl | (simp only [List.length_drop, List.length_take]; rfl)) ?_
 with_reducible refine (impl_get.calls kj1012 _ _ ((l0.take 20).drop 16) t172 _ ?side1 ?side2 A2019.out).mono ?_
 (case side1 => repeat (first | exact (Kd.C_below HR171.out wB) | (with_reducible refine Kd.C_alloc ?_ _) | (with_reducible refine Kd.C_drewN ?_ _) | (with_reducible refine Kd.C_drew ?_)))
 (case side2 => exact HC171.out)
 rintro e w' ⟨rfl, ⟨nd, rfl⟩⟩
 refine ⟨_, rfl, ?_⟩
 refine hK.out _ _ ⟨((HB.out.cell (World.block_lt_of_cell? w _ hw164_0)).trans hw164_0), ((HB.out.cell (World.block_lt_of_cell? w _ hw167_0)).trans hw167_0), ((HB.out.cell (World.block_lt_of_cell? w _ hw168_0)).trans hw168_0)⟩ (fun hHeld => ?_)
 clear hK K
 refine norm_ (a' := ?_) ?_ ?_
 rotate_left
 {
 show Act.put _ (some 87) _ = _
 simp only [Act.put, List.setIfInBounds_toArray, List.set_cons_zero, List.set_cons_succ, i64_w, i32_w]
 rfl
 }
 refine pure_ (i := 32) (N := some 88) (v := ?_) (a' := ?_) #[true, true, true, true, true, true, true, true, true, true, true, true, true, true, true, true, true, true, true, true, true, true, true, true, true, true, true, true, true, true, true, true, true, true, false] rfl rfl (any_of HT_.out (by kernel_rfl)) (fun _ _ _ h => h) (Or.inl ⟨by rfl, ?_⟩) ?_ ?_
 rotate_left
 {
 intro w'
 go_simp
 with_reducible rfl
 }
 rotate_left
 {
 simp only [Act.put, List.setIfInBounds_toArray, List.set_cons_zero, List.set_cons_succ, i64_w, i32_w]
 rfl
 }
 exact norm_ (by simp only [putAll, Act.put, List.setIfInBounds_toArray, List.set_cons_zero, List.set_cons_succ]) (hCont (gb173) _ ⟨hHeld, (Bh BK154), (Bh BK155), (Bh BK173), GW173.out, GE173.out, NB154_173.out, NB173_154.out, NB155_173.out, NB173_155.out, wB⟩)
 }
 }
 {
 skip
 refine box_step ?hg (N := 8) ?hd (cs := #[.int .i64 0, .int .i64 0, .bool false, .bool false, .int .i64 0, .int .i64 0, .int .i64 0, .int .i64 0, .int .i64 0, .slice none 0 0, .slice none 0 0]) (t := 51) ?hr ?_; (case hd => rfl); (case hg => rfl); (case hr => first | (go_simp; done) | (go_simp; rfl))
 intro gb173 hg w3006 hbox hb
 have n0_ := Aside0.mk (blk_below (Bh BK154) hb)
 have n1_ := Aside0.mk (blk_below (Bh BK155) hb)
 have n2_ := Aside0.mk (below_step wB hb)
 have n3_ := Aside0.mk (hbox)
 have n4_ := Aside0.mk ((by rw [hg]; exact (below_size wB) : w.heap.size ≤ gb173))
 have n5_ := Aside0.mk ((by rw [hg]; exact (below_size wB) : w.heap.size ≤ gb173))
 have n6_ := Aside0.mk ((by rw [hg]; exact Nat.ne_of_lt (blk_lt (Bh BK154)) : gb154 ≠ gb173))
 have n7_ := Aside0.mk ((by rw [hg]; exact Nat.ne_of_gt (blk_lt (Bh BK154)) : gb173 ≠ gb154))
 have n8_ := Aside0.mk ((by rw [hg]; exact Nat.ne_of_lt (blk_lt (Bh BK155)) : gb155 ≠ gb173))
 have n9_ := Aside0.mk ((by rw [hg]; exact Nat.ne_of_gt (blk_lt (Bh BK155)) : gb173 ≠ gb155))
 clear BK154
 clear BK155
 clear HB
 have BK154 := n0_
 have BK155 := n1_
 have HB := n2_
 have BK173 := n3_
 have GW173 := n4_
 have GE173 := n5_
 have NB154_173 := n6_
 have NB173_154 := n7_
 have NB155_173 := n8_
 have NB173_155 := n9_
 clear n0_ n1_ n2_ n3_ n4_ n5_ n6_ n7_ n8_ n9_
 clear hb hbox hg
 refine hK.out _ _ ⟨((HB.out.cell (World.block_lt_of_cell? w _ hw164_0)).trans hw164_0), ((HB.out.cell (World.block_lt_of_cell? w _ hw167_0)).trans hw167_0), ((HB.out.cell (World.block_lt_of_cell? w _ hw168_0)).trans hw168_0)⟩ (fun hHeld => ?_)
 clear hK K
 refine norm_ (a' := ?_) ?_ ?_
 rotate_left
 {
 show Act.put _ (some 8) _ = _
 simp only [Act.put, List.setIfInBounds_toArray, List.set_cons_zero, List.set_cons_succ, i64_w, i32_w]
 rfl
 }
 refine one_ (i := 6) (N := some 62) #[true, true, true, true, true, true, true, true, true, true, true, true, true, true, true, true, true, true, true, true, true, true, true, true, true, true, true, true, false, true, true, false, false, true, false] rfl rfl (one_of HT_.out (by kernel_rfl)) (by decide) (fun K hK => ?_)
 refine goes_ Try.func72 (by kernel_rfl) rfl #[.slice A3003 ((l0.take 6).drop 4).length (c0 - 4)] (by rfl) rfl rfl (by (try simp only [List.map_toArray, List.map_cons, List.map_nil]); first | done | (rw [show ((l0.take 6).drop 4).length = (6 - 4) from (by rw [List.length_drop, List.length_take]; have h_ : (6 : Int) ≤ (l0.length : Int) := of_decide_eq_true (by first | (with_reducible assumption) | assumption); omega)] <;> rfl) | rfl | (simp only [List.length_drop, List.length_take]; rfl)) ?_
 with_reducible refine (impl_get.calls kj1012 _ _ ((l0.take 6).drop 4) t166 _ ?side1 ?side2 A2011.out).mono ?_
 (case side1 => exact Kd.C_below HR165.out wB)
 (case side2 => exact HC165.out)
 rintro e w' ⟨rfl, ⟨nd, rfl⟩⟩
 refine ⟨_, rfl, ?_⟩
 refine hK.out _ _ ⟨((HB.out.cell (World.block_lt_of_cell? w _ hw164_0)).trans hw164_0), ((HB.out.cell (World.block_lt_of_cell? w _ hw167_0)).trans hw167_0), ((HB.out.cell (World.block_lt_of_cell? w _ hw168_0)).trans hw168_0)⟩ (fun hHeld => ?_)
 clear hK K
 refine norm_ (a' := ?_) ?_ ?_
 rotate_left
 {
 show Act.put _ (some 62) _ = _
 simp only [Act.put, List.setIfInBounds_toArray, List.set_cons_zero, List.set_cons_succ, i64_w, i32_w]
 rfl
 }
 refine one_ (i := 28) (N := some 84) #[true, true, true, true, true, true, true, true, true, true, true, true, true, true, true, true, true, true, true, true, true, true, true, true, true, true, true, true, true, true, true, false, false, true, false] rfl rfl (one_of HT_.out (by kernel_rfl)) (by decide) (fun K hK => ?_)
 refine goes_ Try.func72 (by kernel_rfl) rfl #[.slice A3004 ((l0.take 16).drop 12).length (c0 - 12)] (by rfl) rfl rfl (by (try simp only [List.map_toArray, List.map_cons, List.map_nil]); first | done | (rw [show ((l0.take 16).drop 12).length = (16 - 12) from (by rw [List.length_drop, List.length_take]; have h_ : (16 : Int) ≤ (l0.length : Int) := of_decide_eq_true (by first | (with_reducible assumption) | assumption); omega)] <;> rfl) | rfl | (simp only [List.length_drop, List.length_take]; rfl)) ?_
 with_reducible refine (impl_get.calls kj1012 _ _ ((l0.take 16).drop 12) t170 _ ?side1 ?side2 A2016.out).mono ?_
 (case side1 => repeat (first | exact (Kd.C_below HR169.out wB) | (with_reducible refine Kd.C_alloc ?_ _) | (with_reducible refine Kd.C_drewN ?_ _) | (with_reducible refine Kd.C_drew ?_)))
 (case side2 => exact HC169.out)
 rintro e w' ⟨rfl, ⟨nd, rfl⟩⟩
 refine ⟨_, rfl, ?_⟩
 refine hK.out _ _ ⟨((HB.out.cell (World.block_lt_of_cell? w _ hw164_0)).trans hw164_0), ((HB.out.cell (World.block_lt_of_cell? w _ hw167_0)).trans hw167_0), ((HB.out.cell (World.block_lt_of_cell? w _ hw168_0)).trans hw168_0)⟩ (fun hHeld => ?_)
 clear hK K
 refine norm_ (a' := ?_) ?_ ?_
 rotate_left
 {
 show Act.put _ (some 84) _ = _
 simp only [Act.put, List.setIfInBounds_toArray, List.set_cons_zero, List.set_cons_succ, i64_w, i32_w]
 rfl
 }
 refine one_ (i := 31) (N := some 87) #[true, true, true, true, true, true, true, true, true, true, true, true, true, true, true, true, true, true, true, true, true, true, true, true, true, true, true, true, true, true, true, true, false, true, false] rfl rfl (one_of HT_.out (by kernel_rfl)) (by decide) (fun K hK => ?_)
 refine goes_ Try.func72 (by kernel_rfl) rfl #[.slice A3005 ((l0.take 20).drop 16).length (c0 - 16)] (by rfl) rfl rfl (by (try simp only [List.map_toArray, List.map_cons, List.map_nil]); first | done | (rw [show ((l0.take 20).drop 16).length = (20 - 16) from (by rw [List.length_drop, List.length_take]; have h_ : (20 : Int) ≤ (l0.length : Int) := of_decide_eq_true (by first | (with_reducible assumption) | assumption); omega)] <;> rfl) | rfl | (simp only [List.length_drop, List.length_take]; rfl)) ?_
 with_reducible refine (impl_get.calls kj1012 _ _ ((l0.take 20).drop 16) t172 _ ?side1 ?side2 A2019.out).mono ?_
 (case side1 => repeat (first | exact (Kd.C_below HR171.out wB) | (with_reducible refine Kd.C_alloc ?_ _) | (with_reducible refine Kd.C_drewN ?_ _) | (with_reducible refine Kd.C_drew ?_)))
 (case side2 => exact HC171.out)
 rintro e w' ⟨rfl, ⟨nd, rfl⟩⟩
 refine ⟨_, rfl, ?_⟩
 refine hK.out _ _ ⟨((HB.out.cell (World.block_lt_of_cell? w _ hw164_0)).trans hw164_0), ((HB.out.cell (World.block_lt_of_cell? w _ hw167_0)).trans hw167_0), ((HB.out.cell (World.block_lt_of_cell? w _ hw168_0)).trans hw168_0)⟩ (fun hHeld => ?_)
 clear hK K
 refine norm_ (a' := ?_) ?_ ?_
 rotate_left
 {
 show Act.put _ (some 87) _ = _
 simp only [Act.put, List.setIfInBounds_toArray, List.set_cons_zero, List.set_cons_succ, i64_w, i32_w]
 rfl
 }
 refine pure_ (i := 32) (N := some 88) (v := ?_) (a' := ?_) #[true, true, true, true, true, true, true, true, true, true, true, true, true, true, true, true, true, true, true, true, true, true, true, true, true, true, true, true, true, true, true, true, true, true, false] rfl rfl (any_of HT_.out (by kernel_rfl)) (fun _ _ _ h => h) (Or.inl ⟨by rfl, ?_⟩) ?_ ?_
 rotate_left
 {
 intro w'
 go_simp
 with_reducible rfl
 }
 rotate_left
 {
 simp only [Act.put, List.setIfInBounds_toArray, List.set_cons_zero, List.set_cons_succ, i64_w, i32_w]
 rfl
 }
 exact norm_ (by simp only [putAll, Act.put, List.setIfInBounds_toArray, List.set_cons_zero, List.set_cons_succ]) (hCont (gb173) _ ⟨hHeld, (Bh BK154), (Bh BK155), (Bh BK173), GW173.out, GE173.out, NB154_173.out, NB173_154.out, NB155_173.out, NB173_155.out, wB⟩)
 }
 }
 rintro gb173 w3007 ⟨hS_, h0_, h1_, h2_, h3_, h4_, h5_, h6_, h7_, h8_, h9_⟩
 have n0_ : Aside0 (w3007.heap[gb154]? = some (.cells #[.int .i64 0, .int .i64 0, .bool false, .bool false, .int .i64 0, .int .i64 0, .int .i64 0, .int .i64 0, .int .i64 0, .slice none 0 0, .slice none 0 0] 51 (0, 0))) := ⟨h0_⟩
 have n1_ : Aside0 (w3007.heap[gb155]? = some (.cells #[.int .i64 0, .int .i64 0, .bool false, .bool false, .int .i64 0, .int .i64 0, .int .i64 0, .int .i64 0, .int .i64 0, .slice none 0 0, .slice none 0 0] 51 (0, 0))) := ⟨h1_⟩
 have n2_ : Aside0 (w3007.heap[gb173]? = some (.cells #[.int .i64 0, .int .i64 0, .bool false, .bool false, .int .i64 0, .int .i64 0, .int .i64 0, .int .i64 0, .int .i64 0, .slice none 0 0, .slice none 0 0] 51 (0, 0))) := ⟨h2_⟩
 have n3_ : Aside0 (w.heap.size ≤ gb173) := ⟨h3_⟩
 have n4_ : Aside0 (w.heap.size ≤ gb173) := ⟨h4_⟩
 have n5_ : Aside0 (gb154 ≠ gb173) := ⟨h5_⟩
 have n6_ : Aside0 (gb173 ≠ gb154) := ⟨h6_⟩
 have n7_ : Aside0 (gb155 ≠ gb173) := ⟨h7_⟩
 have n8_ : Aside0 (gb173 ≠ gb155) := ⟨h8_⟩
 have n9_ : Aside0 (Below w.heap.size w w3007) := ⟨h9_⟩
 clear BK154
 clear BK155
 clear HB
 clear h0_ h1_ h2_ h3_ h4_ h5_ h6_ h7_ h8_ h9_
 have BK154 := n0_
 have BK155 := n1_
 have BK173 := n2_
 have GW173 := n3_
 have GE173 := n4_
 have NB154_173 := n5_
 have NB173_154 := n6_
 have NB155_173 := n7_
 have NB173_155 := n8_
 have HB := n9_
 clear n0_ n1_ n2_ n3_ n4_ n5_ n6_ n7_ n8_ n9_
 have hHeld : w3007.cell? ⟨ad156.block, ad156.off + 1, none⟩ = some (.int .u8 (rd l0 1)) ∧ w3007.cell? ⟨ad156.block, ad156.off + 8, none⟩ = some (.int .u8 (rd l0 8)) ∧ w3007.cell? ⟨ad156.block, ad156.off + 9, none⟩ = some (.int .u8 (rd l0 9)) := hS_
 refine norm_ (a' := ?_) ?_ ?_
 rotate_left
 {
 simp only [putAll, Act.put, List.setIfInBounds_toArray, List.set_cons_zero, List.set_cons_succ]
 rfl
 }
 refine one_ (i := 34) (N := none) #[true, true, true, true, true, true, true, true, true, true, true, true, true, true, true, true, true, true, true, true, true, true, true, true, true, true, true, true, true, true, true, true, true, true, true] rfl rfl (one_of HT_.out (by kernel_rfl)) (by decide) (fun K hK => ?_)
 have hs3008 : w3007.cell? ⟨gb173, 0, none⟩ = some (.int .i64 0) := (blk_cell BK173.out 0).trans rfl
 have hfs3008 := blk_frozen BK173.out 0
 have hns3008_0 := NB154_173.out
 have hns3008_1 := NB155_173.out
 have hms3008_0 := NB173_154.out
 have hms3008_1 := NB173_155.out
 have hs3009 : w3007.cell? ⟨gb173, 1, none⟩ = some (.int .i64 0) := (blk_cell BK173.out 1).trans rfl
 have hfs3009 := blk_frozen BK173.out 1
 have hns3009_0 := NB154_173.out
 have hns3009_1 := NB155_173.out
 have hms3009_0 := NB173_154.out
 have hms3009_1 := NB173_155.out
 have hs3010 : w3007.cell? ⟨gb173, 2, none⟩ = some (.bool false) := (blk_cell BK173.out 2).trans rfl
 have hfs3010 := blk_frozen BK173.out 2
 have hns3010_0 := NB154_173.out
 have hns3010_1 := NB155_173.out
 have hms3010_0 := NB173_154.out
 have hms3010_1 := NB173_155.out
 have hs3011 : w3007.cell? ⟨gb173, 3, none⟩ = some (.bool false) := (blk_cell BK173.out 3).trans rfl
 have hfs3011 := blk_frozen BK173.out 3
 have hns3011_0 := NB154_173.out
 have hns3011_1 := NB155_173.out
 have hms3011_0 := NB173_154.out
 have hms3011_1 := NB173_155.out
 have hs3012 : w3007.cell? ⟨gb173, 4, none⟩ = some (.int .i64 0) := (blk_cell BK173.out 4).trans rfl
 have hfs3012 := blk_frozen BK173.out 4
 have hns3012_0 := NB154_173.out
 have hns3012_1 := NB155_173.out
 have hms3012_0 := NB173_154.out
 have hms3012_1 := NB173_155.out
 have hs3013 : w3007.cell? ⟨gb173, 5, none⟩ = some (.int .i64 0) := (blk_cell BK173.out 5).trans rfl
 have hfs3013 := blk_frozen BK173.out 5
 have hns3013_0 := NB154_173.out
 have hns3013_1 := NB155_173.out
 have hms3013_0 := NB173_154.out
 have hms3013_1 := NB173_155.out
 have hs3014 : w3007.cell? ⟨gb173, 6, none⟩ = some (.int .i64 0) := (blk_cell BK173.out 6).trans rfl
 have hfs3014 := blk_frozen BK173.out 6
 have hns3014_0 := NB154_173.out
 have hns3014_1 := NB155_173.out
 have hms3014_0 := NB173_154.out
 have hms3014_1 := NB173_155.out
 have hs3015 : w3007.cell? ⟨gb173, 7, none⟩ = some (.int .i64 0) := (blk_cell BK173.out 7).trans rfl
 have hfs3015 := blk_frozen BK173.out 7
 have hns3015_0 := NB154_173.out
 have hns3015_1 := NB155_173.out
 have hms3015_0 := NB173_154.out
 have hms3015_1 := NB173_155.out
 have hs3016 : w3007.cell? ⟨gb173, 8, none⟩ = some (.int .i64 0) := (blk_cell BK173.out 8).trans rfl
 have hfs3016 := blk_frozen BK173.out 8
 have hns3016_0 := NB154_173.out
 have hns3016_1 := NB155_173.out
 have hms3016_0 := NB173_154.out
 have hms3016_1 := NB173_155.out
 have hs3017 : w3007.cell? ⟨gb173, 9, none⟩ = some (.slice none 0 0) := (blk_cell BK173.out 9).trans rfl
 have hfs3017 := blk_frozen BK173.out 9
 have hns3017_0 := NB154_173.out
 have hns3017_1 := NB155_173.out
 have hms3017_0 := NB173_154.out
 have hms3017_1 := NB173_155.out
 have hs3018 : w3007.cell? ⟨gb173, 10, none⟩ = some (.slice none 0 0) := (blk_cell BK173.out 10).trans rfl
 have hfs3018 := blk_frozen BK173.out 10
 have hns3018_0 := NB154_173.out
 have hns3018_1 := NB155_173.out
 have hms3018_0 := NB173_154.out
 have hms3018_1 := NB173_155.out
 refine skip_ (w1 := ?_) (by rfl) rfl ?_ ?_
 rotate_left
 {
 go_simp
 rfl
 }
 refine hK.out _ _ ⟨((cell_far (p := ⟨gb173, _, none⟩) (by first | exact Nat.ne_of_lt (Nat.lt_of_lt_of_le (by have := World.block_lt_of_cell? _ _ hw164_0; first | rwa [add_block] at this | exact this) GW173.out) | (rw [add_block]; exact Nat.ne_of_lt (Nat.lt_of_lt_of_le (by have := World.block_lt_of_cell? _ _ hw164_0; first | rwa [add_block] at this | exact this) GW173.out)) | (show (Addr.add _ _).block ≠ _; rw [add_block]; exact Nat.ne_of_lt (Nat.lt_of_lt_of_le (by have := World.block_lt_of_cell? _ _ hw164_0; first | rwa [add_block] at this | exact this) GW173.out)) | (dsimp only; exact Nat.ne_of_lt (Nat.lt_of_lt_of_le (by have := World.block_lt_of_cell? _ _ hw164_0; first | rwa [add_block] at this | exact this) GW173.out))) _).trans (((cell_far (p := ⟨gb173, _, none⟩) (by first | exact Nat.ne_of_lt (Nat.lt_of_lt_of_le (by have := World.block_lt_of_cell? _ _ hw164_0; first | rwa [add_block] at this | exact this) GW173.out) | (rw [add_block]; exact Nat.ne_of_lt (Nat.lt_of_lt_of_le (by have := World.block_lt_of_cell? _ _ hw164_0; first | rwa [add_block] at this | exact this) GW173.out)) | (show (Addr.add _ _).block ≠ _; rw [add_block]; exact Nat.ne_of_lt (Nat.lt_of_lt_of_le (by have := World.block_lt_of_cell? _ _ hw164_0; first | rwa [add_block] at this | exact this) GW173.out)) | (dsimp only; exact Nat.ne_of_lt (Nat.lt_of_lt_of_le (by have := World.block_lt_of_cell? _ _ hw164_0; first | rwa [add_block] at this | exact this) GW173.out))) _).trans (((cell_far (p := ⟨gb173, _, none⟩) (by first | exact Nat.ne_of_lt (Nat.lt_of_lt_of_le (by have := World.block_lt_of_cell? _ _ hw164_0; first | rwa [add_block] at this | exact this) GW173.out) | (rw [add_block]; exact Nat.ne_of_lt (Nat.lt_of_lt_of_le (by have := World.block_lt_of_cell? _ _ hw164_0; first | rwa [add_block] at this | exact this) GW173.out)) | (show (Addr.add _ _).block ≠ _; rw [add_block]; exact Nat.ne_of_lt (Nat.lt_of_lt_of_le (by have := World.block_lt_of_cell? _ _ hw164_0; first | rwa [add_block] at this | exact this) GW173.out)) | (dsimp only; exact Nat.ne_of_lt (Nat.lt_of_lt_of_le (by have := World.block_lt_of_cell? _ _ hw164_0; first | rwa [add_block] at this | exact this) GW173.out))) _).trans (((cell_far (p := ⟨gb173, _, none⟩) (by first | exact Nat.ne_of_lt (Nat.lt_of_lt_of_le (by have := World.block_lt_of_cell? _ _ hw164_0; first | rwa [add_block] at this | exact this) GW173.out) | (rw [add_block]; exact Nat.ne_of_lt (Nat.lt_of_lt_of_le (by have := World.block_lt_of_cell? _ _ hw164_0; first | rwa [add_block] at this | exact this) GW173.out)) | (show (Addr.add _ _).block ≠ _; rw [add_block]; exact Nat.ne_of_lt (Nat.lt_of_lt_of_le (by have := World.block_lt_of_cell? _ _ hw164_0; first | rwa [add_block] at this | exact this) GW173.out)) | (dsimp only; exact Nat.ne_of_lt (Nat.lt_of_lt_of_le (by have := World.block_lt_of_cell? _ _ hw164_0; first | rwa [add_block] at this | exact this) GW173.out))) _).trans (((cell_far (p := ⟨gb173, _, none⟩) (by first | exact Nat.ne_of_lt (Nat.lt_of_lt_of_le (by have := World.block_lt_of_cell? _ _ hw164_0; first | rwa [add_block] at this | exact this) GW173.out) | (rw [add_block]; exact Nat.ne_of_lt (Nat.lt_of_lt_of_le (by have := World.block_lt_of_cell? _ _ hw164_0; first | rwa [add_block] at this | exact this) GW173.out)) | (show (Addr.add _ _).block ≠ _; rw [add_block]; exact Nat.ne_of_lt (Nat.lt_of_lt_of_le (by have := World.block_lt_of_cell? _ _ hw164_0; first | rwa [add_block] at this | exact this) GW173.out)) | (dsimp only; exact Nat.ne_of_lt (Nat.lt_of_lt_of_le (by have := World.block_lt_of_cell? _ _ hw164_0; first | rwa [add_block] at this | exact this) GW173.out))) _).trans (((cell_far (p := ⟨gb173, _, none⟩) (by first | exact Nat.ne_of_lt (Nat.lt_of_lt_of_le (by have := World.block_lt_of_cell? _ _ hw164_0; first | rwa [add_block] at this | exact this) GW173.out) | (rw [add_block]; exact Nat.ne_of_lt (Nat.lt_of_lt_of_le (by have := World.block_lt_of_cell? _ _ hw164_0; first | rwa [add_block] at this | exact this) GW173.out)) | (show (Addr.add _ _).block ≠ _; rw [add_block]; exact Nat.ne_of_lt (Nat.lt_of_lt_of_le (by have := World.block_lt_of_cell? _ _ hw164_0; first | rwa [add_block] at this | exact this) GW173.out)) | (dsimp only; exact Nat.ne_of_lt (Nat.lt_of_lt_of_le (by have := World.block_lt_of_cell? _ _ hw164_0; first | rwa [add_block] at this | exact this) GW173.out))) _).trans (((cell_far (p := ⟨gb173, _, none⟩) (by first | exact Nat.ne_of_lt (Nat.lt_of_lt_of_le (by have := World.block_lt_of_cell? _ _ hw164_0; first | rwa [add_block] at this | exact this) GW173.out) | (rw [add_block]; exact Nat.ne_of_lt (Nat.lt_of_lt_of_le (by have := World.block_lt_of_cell? _ _ hw164_0; first | rwa [add_block] at this | exact this) GW173.out)) | (show (Addr.add _ _).block ≠ _; rw [add_block]; exact Nat.ne_of_lt (Nat.lt_of_lt_of_le (by have := World.block_lt_of_cell? _ _ hw164_0; first | rwa [add_block] at this | exact this) GW173.out)) | (dsimp only; exact Nat.ne_of_lt (Nat.lt_of_lt_of_le (by have := World.block_lt_of_cell? _ _ hw164_0; first | rwa [add_block] at this | exact this) GW173.out))) _).trans (((cell_far (p := ⟨gb173, _, none⟩) (by first | exact Nat.ne_of_lt (Nat.lt_of_lt_of_le (by have := World.block_lt_of_cell? _ _ hw164_0; first | rwa [add_block] at this | exact this) GW173.out) | (rw [add_block]; exact Nat.ne_of_lt (Nat.lt_of_lt_of_le (by have := World.block_lt_of_cell? _ _ hw164_0; first | rwa [add_block] at this | exact this) GW173.out)) | (show (Addr.add _ _).block ≠ _; rw [add_block]; exact Nat.ne_of_lt (Nat.lt_of_lt_of_le (by have := World.block_lt_of_cell? _ _ hw164_0; first | rwa [add_block] at this | exact this) GW173.out)) | (dsimp only; exact Nat.ne_of_lt (Nat.lt_of_lt_of_le (by have := World.block_lt_of_cell? _ _ hw164_0; first | rwa [add_block] at this | exact this) GW173.out))) _).trans (((cell_far (p := ⟨gb173, _, none⟩) (by first | exact Nat.ne_of_lt (Nat.lt_of_lt_of_le (by have := World.block_lt_of_cell? _ _ hw164_0; first | rwa [add_block] at this | exact this) GW173.out) | (rw [add_block]; exact Nat.ne_of_lt (Nat.lt_of_lt_of_le (by have := World.block_lt_of_cell? _ _ hw164_0; first | rwa [add_block] at this | exact this) GW173.out)) | (show (Addr.add _ _).block ≠ _; rw [add_block]; exact Nat.ne_of_lt (Nat.lt_of_lt_of_le (by have := World.block_lt_of_cell? _ _ hw164_0; first | rwa [add_block] at this | exact this) GW173.out)) | (dsimp only; exact Nat.ne_of_lt (Nat.lt_of_lt_of_le (by have := World.block_lt_of_cell? _ _ hw164_0; first | rwa [add_block] at this | exact this) GW173.out))) _).trans (((cell_far (p := ⟨gb173, _, none⟩) (by first | exact Nat.ne_of_lt (Nat.lt_of_lt_of_le (by have := World.block_lt_of_cell? _ _ hw164_0; first | rwa [add_block] at this | exact this) GW173.out) | (rw [add_block]; exact Nat.ne_of_lt (Nat.lt_of_lt_of_le (by have := World.block_lt_of_cell? _ _ hw164_0; first | rwa [add_block] at this | exact this) GW173.out)) | (show (Addr.add _ _).block ≠ _; rw [add_block]; exact Nat.ne_of_lt (Nat.lt_of_lt_of_le (by have := World.block_lt_of_cell? _ _ hw164_0; first | rwa [add_block] at this | exact this) GW173.out)) | (dsimp only; exact Nat.ne_of_lt (Nat.lt_of_lt_of_le (by have := World.block_lt_of_cell? _ _ hw164_0; first | rwa [add_block] at this | exact this) GW173.out))) _).trans (((cell_far (p := ⟨gb173, _, none⟩) (by first | exact Nat.ne_of_lt (Nat.lt_of_lt_of_le (by have := World.block_lt_of_cell? _ _ hw164_0; first | rwa [add_block] at this | exact this) GW173.out) | (rw [add_block]; exact Nat.ne_of_lt (Nat.lt_of_lt_of_le (by have := World.block_lt_of_cell? _ _ hw164_0; first | rwa [add_block] at this | exact this) GW173.out)) | (show (Addr.add _ _).block ≠ _; rw [add_block]; exact Nat.ne_of_lt (Nat.lt_of_lt_of_le (by have := World.block_lt_of_cell? _ _ hw164_0; first | rwa [add_block] at this | exact this) GW173.out)) | (dsimp only; exact Nat.ne_of_lt (Nat.lt_of_lt_of_le (by have := World.block_lt_of_cell? _ _ hw164_0; first | rwa [add_block] at this | exact this) GW173.out))) _).trans (hHeld.1)))))))))))))))))))))), ((cell_far (p := ⟨gb173, _, none⟩) (by first | exact Nat.ne_of_lt (Nat.lt_of_lt_of_le (by have := World.block_lt_of_cell? _ _ hw167_0; first | rwa [add_block] at this | exact this) GW173.out) | (rw [add_block]; exact Nat.ne_of_lt (Nat.lt_of_lt_of_le (by have := World.block_lt_of_cell? _ _ hw167_0; first | rwa [add_block] at this | exact this) GW173.out)) | (show (Addr.add _ _).block ≠ _; rw [add_block]; exact Nat.ne_of_lt (Nat.lt_of_lt_of_le (by have := World.block_lt_of_cell? _ _ hw167_0; first | rwa [add_block] at this | exact this) GW173.out)) | (dsimp only; exact Nat.ne_of_lt (Nat.lt_of_lt_of_le (by have := World.block_lt_of_cell? _ _ hw167_0; first | rwa [add_block] at this | exact this) GW173.out))) _).trans (((cell_far (p := ⟨gb173, _, none⟩) (by first | exact Nat.ne_of_lt (Nat.lt_of_lt_of_le (by have := World.block_lt_of_cell? _ _ hw167_0; first | rwa [add_block] at this | exact this) GW173.out) | (rw [add_block]; exact Nat.ne_of_lt (Nat.lt_of_lt_of_le (by have := World.block_lt_of_cell? _ _ hw167_0; first | rwa [add_block] at this | exact this) GW173.out)) | (show (Addr.add _ _).block ≠ _; rw [add_block]; exact Nat.ne_of_lt (Nat.lt_of_lt_of_le (by have := World.block_lt_of_cell? _ _ hw167_0; first | rwa [add_block] at this | exact this) GW173.out)) | (dsimp only; exact Nat.ne_of_lt (Nat.lt_of_lt_of_le (by have := World.block_lt_of_cell? _ _ hw167_0; first | rwa [add_block] at this | exact this) GW173.out))) _).trans (((cell_far (p := ⟨gb173, _, none⟩) (by first | exact Nat.ne_of_lt (Nat.lt_of_lt_of_le (by have := World.block_lt_of_cell? _ _ hw167_0; first | rwa [add_block] at this | exact this) GW173.out) | (rw [add_block]; exact Nat.ne_of_lt (Nat.lt_of_lt_of_le (by have := World.block_lt_of_cell? _ _ hw167_0; first | rwa [add_block] at this | exact this) GW173.out)) | (show (Addr.add _ _).block ≠ _; rw [add_block]; exact Nat.ne_of_lt (Nat.lt_of_lt_of_le (by have := World.block_lt_of_cell? _ _ hw167_0; first | rwa [add_block] at this | exact this) GW173.out)) | (dsimp only; exact Nat.ne_of_lt (Nat.lt_of_lt_of_le (by have := World.block_lt_of_cell? _ _ hw167_0; first | rwa [add_block] at this | exact this) GW173.out))) _).trans (((cell_far (p := ⟨gb173, _, none⟩) (by first | exact Nat.ne_of_lt (Nat.lt_of_lt_of_le (by have := World.block_lt_of_cell? _ _ hw167_0; first | rwa [add_block] at this | exact this) GW173.out) | (rw [add_block]; exact Nat.ne_of_lt (Nat.lt_of_lt_of_le (by have := World.block_lt_of_cell? _ _ hw167_0; first | rwa [add_block] at this | exact this) GW173.out)) | (show (Addr.add _ _).block ≠ _; rw [add_block]; exact Nat.ne_of_lt (Nat.lt_of_lt_of_le (by have := World.block_lt_of_cell? _ _ hw167_0; first | rwa [add_block] at this | exact this) GW173.out)) | (dsimp only; exact Nat.ne_of_lt (Nat.lt_of_lt_of_le (by have := World.block_lt_of_cell? _ _ hw167_0; first | rwa [add_block] at this | exact this) GW173.out))) _).trans (((cell_far (p := ⟨gb173, _, none⟩) (by first | exact Nat.ne_of_lt (Nat.lt_of_lt_of_le (by have := World.block_lt_of_cell? _ _ hw167_0; first | rwa [add_block] at this | exact this) GW173.out) | (rw [add_block]; exact Nat.ne_of_lt (Nat.lt_of_lt_of_le (by have := World.block_lt_of_cell? _ _ hw167_0; first | rwa [add_block] at this | exact this) GW173.out)) | (show (Addr.add _ _).block ≠ _; rw [add_block]; exact Nat.ne_of_lt (Nat.lt_of_lt_of_le (by have := World.block_lt_of_cell? _ _ hw167_0; first | rwa [add_block] at this | exact this) GW173.out)) | (dsimp only; exact Nat.ne_of_lt (Nat.lt_of_lt_of_le (by have := World.block_lt_of_cell? _ _ hw167_0; first | rwa [add_block] at this | exact this) GW173.out))) _).trans (((cell_far (p := ⟨gb173, _, none⟩) (by first | exact Nat.ne_of_lt (Nat.lt_of_lt_of_le (by have := World.block_lt_of_cell? _ _ hw167_0; first | rwa [add_block] at this | exact this) GW173.out) | (rw [add_block]; exact Nat.ne_of_lt (Nat.lt_of_lt_of_le (by have := World.block_lt_of_cell? _ _ hw167_0; first | rwa [add_block] at this | exact this) GW173.out)) | (show (Addr.add _ _).block ≠ _; rw [add_block]; exact Nat.ne_of_lt (Nat.lt_of_lt_of_le (by have := World.block_lt_of_cell? _ _ hw167_0; first | rwa [add_block] at this | exact this) GW173.out)) | (dsimp only; exact Nat.ne_of_lt (Nat.lt_of_lt_of_le (by have := World.block_lt_of_cell? _ _ hw167_0; first | rwa [add_block] at this | exact this) GW173.out))) _).trans (((cell_far (p := ⟨gb173, _, none⟩) (by first | exact Nat.ne_of_lt (Nat.lt_of_lt_of_le (by have := World.block_lt_of_cell? _ _ hw167_0; first | rwa [add_block] at this | exact this) GW173.out) | (rw [add_block]; exact Nat.ne_of_lt (Nat.lt_of_lt_of_le (by have := World.block_lt_of_cell? _ _ hw167_0; first | rwa [add_block] at this | exact this) GW173.out)) | (show (Addr.add _ _).block ≠ _; rw [add_block]; exact Nat.ne_of_lt (Nat.lt_of_lt_of_le (by have := World.block_lt_of_cell? _ _ hw167_0; first | rwa [add_block] at this | exact this) GW173.out)) | (dsimp only; exact Nat.ne_of_lt (Nat.lt_of_lt_of_le (by have := World.block_lt_of_cell? _ _ hw167_0; first | rwa [add_block] at this | exact this) GW173.out))) _).trans (((cell_far (p := ⟨gb173, _, none⟩) (by first | exact Nat.ne_of_lt (Nat.lt_of_lt_of_le (by have := World.block_lt_of_cell? _ _ hw167_0; first | rwa [add_block] at this | exact this) GW173.out) | (rw [add_block]; exact Nat.ne_of_lt (Nat.lt_of_lt_of_le (by have := World.block_lt_of_cell? _ _ hw167_0; first | rwa [add_block] at this | exact this) GW173.out)) | (show (Addr.add _ _).block ≠ _; rw [add_block]; exact Nat.ne_of_lt (Nat.lt_of_lt_of_le (by have := World.block_lt_of_cell? _ _ hw167_0; first | rwa [add_block] at this | exact this) GW173.out)) | (dsimp only; exact Nat.ne_of_lt (Nat.lt_of_lt_of_le (by have := World.block_lt_of_cell? _ _ hw167_0; first | rwa [add_block] at this | exact this) GW173.out))) _).trans (((cell_far (p := ⟨gb173, _, none⟩) (by first | exact Nat.ne_of_lt (Nat.lt_of_lt_of_le (by have := World.block_lt_of_cell? _ _ hw167_0; first | rwa [add_block] at this | exact this) GW173.out) | (rw [add_block]; exact Nat.ne_of_lt (Nat.lt_of_lt_of_le (by have := World.block_lt_of_cell? _ _ hw167_0; first | rwa [add_block] at this | exact this) GW173.out)) | (show (Addr.add _ _).block ≠ _; rw [add_block]; exact Nat.ne_of_lt (Nat.lt_of_lt_of_le (by have := World.block_lt_of_cell? _ _ hw167_0; first | rwa [add_block] at this | exact this) GW173.out)) | (dsimp only; exact Nat.ne_of_lt (Nat.lt_of_lt_of_le (by have := World.block_lt_of_cell? _ _ hw167_0; first | rwa [add_block] at this | exact this) GW173.out))) _).trans (((cell_far (p := ⟨gb173, _, none⟩) (by first | exact Nat.ne_of_lt (Nat.lt_of_lt_of_le (by have := World.block_lt_of_cell? _ _ hw167_0; first | rwa [add_block] at this | exact this) GW173.out) | (rw [add_block]; exact Nat.ne_of_lt (Nat.lt_of_lt_of_le (by have := World.block_lt_of_cell? _ _ hw167_0; first | rwa [add_block] at this | exact this) GW173.out)) | (show (Addr.add _ _).block ≠ _; rw [add_block]; exact Nat.ne_of_lt (Nat.lt_of_lt_of_le (by have := World.block_lt_of_cell? _ _ hw167_0; first | rwa [add_block] at this | exact this) GW173.out)) | (dsimp only; exact Nat.ne_of_lt (Nat.lt_of_lt_of_le (by have := World.block_lt_of_cell? _ _ hw167_0; first | rwa [add_block] at this | exact this) GW173.out))) _).trans (((cell_far (p := ⟨gb173, _, none⟩) (by first | exact Nat.ne_of_lt (Nat.lt_of_lt_of_le (by have := World.block_lt_of_cell? _ _ hw167_0; first | rwa [add_block] at this | exact this) GW173.out) | (rw [add_block]; exact Nat.ne_of_lt (Nat.lt_of_lt_of_le (by have := World.block_lt_of_cell? _ _ hw167_0; first | rwa [add_block] at this | exact this) GW173.out)) | (show (Addr.add _ _).block ≠ _; rw [add_block]; exact Nat.ne_of_lt (Nat.lt_of_lt_of_le (by have := World.block_lt_of_cell? _ _ hw167_0; first | rwa [add_block] at this | exact this) GW173.out)) | (dsimp only; exact Nat.ne_of_lt (Nat.lt_of_lt_of_le (by have := World.block_lt_of_cell? _ _ hw167_0; first | rwa [add_block] at this | exact this) GW173.out))) _).trans (hHeld.2.1)))))))))))))))))))))), ((cell_far (p := ⟨gb173, _, none⟩) (by first | exact Nat.ne_of_lt (Nat.lt_of_lt_of_le (by have := World.block_lt_of_cell? _ _ hw168_0; first | rwa [add_block] at this | exact this) GW173.out) | (rw [add_block]; exact Nat.ne_of_lt (Nat.lt_of_lt_of_le (by have := World.block_lt_of_cell? _ _ hw168_0; first | rwa [add_block] at this | exact this) GW173.out)) | (show (Addr.add _ _).block ≠ _; rw [add_block]; exact Nat.ne_of_lt (Nat.lt_of_lt_of_le (by have := World.block_lt_of_cell? _ _ hw168_0; first | rwa [add_block] at this | exact this) GW173.out)) | (dsimp only; exact Nat.ne_of_lt (Nat.lt_of_lt_of_le (by have := World.block_lt_of_cell? _ _ hw168_0; first | rwa [add_block] at this | exact this) GW173.out))) _).trans (((cell_far (p := ⟨gb173, _, none⟩) (by first | exact Nat.ne_of_lt (Nat.lt_of_lt_of_le (by have := World.block_lt_of_cell? _ _ hw168_0; first | rwa [add_block] at this | exact this) GW173.out) | (rw [add_block]; exact Nat.ne_of_lt (Nat.lt_of_lt_of_le (by have := World.block_lt_of_cell? _ _ hw168_0; first | rwa [add_block] at this | exact this) GW173.out)) | (show (Addr.add _ _).block ≠ _; rw [add_block]; exact Nat.ne_of_lt (Nat.lt_of_lt_of_le (by have := World.block_lt_of_cell? _ _ hw168_0; first | rwa [add_block] at this | exact this) GW173.out)) | (dsimp only; exact Nat.ne_of_lt (Nat.lt_of_lt_of_le (by have := World.block_lt_of_cell? _ _ hw168_0; first | rwa [add_block] at this | exact this) GW173.out))) _).trans (((cell_far (p := ⟨gb173, _, none⟩) (by first | exact Nat.ne_of_lt (Nat.lt_of_lt_of_le (by have := World.block_lt_of_cell? _ _ hw168_0; first | rwa [add_block] at this | exact this) GW173.out) | (rw [add_block]; exact Nat.ne_of_lt (Nat.lt_of_lt_of_le (by have := World.block_lt_of_cell? _ _ hw168_0; first | rwa [add_block] at this | exact this) GW173.out)) | (show (Addr.add _ _).block ≠ _; rw [add_block]; exact Nat.ne_of_lt (Nat.lt_of_lt_of_le (by have := World.block_lt_of_cell? _ _ hw168_0; first | rwa [add_block] at this | exact this) GW173.out)) | (dsimp only; exact Nat.ne_of_lt (Nat.lt_of_lt_of_le (by have := World.block_lt_of_cell? _ _ hw168_0; first | rwa [add_block] at this | exact this) GW173.out))) _).trans (((cell_far (p := ⟨gb173, _, none⟩) (by first | exact Nat.ne_of_lt (Nat.lt_of_lt_of_le (by have := World.block_lt_of_cell? _ _ hw168_0; first | rwa [add_block] at this | exact this) GW173.out) | (rw [add_block]; exact Nat.ne_of_lt (Nat.lt_of_lt_of_le (by have := World.block_lt_of_cell? _ _ hw168_0; first | rwa [add_block] at this | exact this) GW173.out)) | (show (Addr.add _ _).block ≠ _; rw [add_block]; exact Nat.ne_of_lt (Nat.lt_of_lt_of_le (by have := World.block_lt_of_cell? _ _ hw168_0; first | rwa [add_block] at this | exact this) GW173.out)) | (dsimp only; exact Nat.ne_of_lt (Nat.lt_of_lt_of_le (by have := World.block_lt_of_cell? _ _ hw168_0; first | rwa [add_block] at this | exact this) GW173.out))) _).trans (((cell_far (p := ⟨gb173, _, none⟩) (by first | exact Nat.ne_of_lt (Nat.lt_of_lt_of_le (by have := World.block_lt_of_cell? _ _ hw168_0; first | rwa [add_block] at this | exact this) GW173.out) | (rw [add_block]; exact Nat.ne_of_lt (Nat.lt_of_lt_of_le (by have := World.block_lt_of_cell? _ _ hw168_0; first | rwa [add_block] at this | exact this) GW173.out)) | (show (Addr.add _ _).block ≠ _; rw [add_block]; exact Nat.ne_of_lt (Nat.lt_of_lt_of_le (by have := World.block_lt_of_cell? _ _ hw168_0; first | rwa [add_block] at this | exact this) GW173.out)) | (dsimp only; exact Nat.ne_of_lt (Nat.lt_of_lt_of_le (by have := World.block_lt_of_cell? _ _ hw168_0; first | rwa [add_block] at this | exact this) GW173.out))) _).trans (((cell_far (p := ⟨gb173, _, none⟩) (by first | exact Nat.ne_of_lt (Nat.lt_of_lt_of_le (by have := World.block_lt_of_cell? _ _ hw168_0; first | rwa [add_block] at this | exact this) GW173.out) | (rw [add_block]; exact Nat.ne_of_lt (Nat.lt_of_lt_of_le (by have := World.block_lt_of_cell? _ _ hw168_0; first | rwa [add_block] at this | exact this) GW173.out)) | (show (Addr.add _ _).block ≠ _; rw [add_block]; exact Nat.ne_of_lt (Nat.lt_of_lt_of_le (by have := World.block_lt_of_cell? _ _ hw168_0; first | rwa [add_block] at this | exact this) GW173.out)) | (dsimp only; exact Nat.ne_of_lt (Nat.lt_of_lt_of_le (by have := World.block_lt_of_cell? _ _ hw168_0; first | rwa [add_block] at this | exact this) GW173.out))) _).trans (((cell_far (p := ⟨gb173, _, none⟩) (by first | exact Nat.ne_of_lt (Nat.lt_of_lt_of_le (by have := World.block_lt_of_cell? _ _ hw168_0; first | rwa [add_block] at this | exact this) GW173.out) | (rw [add_block]; exact Nat.ne_of_lt (Nat.lt_of_lt_of_le (by have := World.block_lt_of_cell? _ _ hw168_0; first | rwa [add_block] at this | exact this) GW173.out)) | (show (Addr.add _ _).block ≠ _; rw [add_block]; exact Nat.ne_of_lt (Nat.lt_of_lt_of_le (by have := World.block_lt_of_cell? _ _ hw168_0; first | rwa [add_block] at this | exact this) GW173.out)) | (dsimp only; exact Nat.ne_of_lt (Nat.lt_of_lt_of_le (by have := World.block_lt_of_cell? _ _ hw168_0; first | rwa [add_block] at this | exact this) GW173.out))) _).trans (((cell_far (p := ⟨gb173, _, none⟩) (by first | exact Nat.ne_of_lt (Nat.lt_of_lt_of_le (by have := World.block_lt_of_cell? _ _ hw168_0; first | rwa [add_block] at this | exact this) GW173.out) | (rw [add_block]; exact Nat.ne_of_lt (Nat.lt_of_lt_of_le (by have := World.block_lt_of_cell? _ _ hw168_0; first | rwa [add_block] at this | exact this) GW173.out)) | (show (Addr.add _ _).block ≠ _; rw [add_block]; exact Nat.ne_of_lt (Nat.lt_of_lt_of_le (by have := World.block_lt_of_cell? _ _ hw168_0; first | rwa [add_block] at this | exact this) GW173.out)) | (dsimp only; exact Nat.ne_of_lt (Nat.lt_of_lt_of_le (by have := World.block_lt_of_cell? _ _ hw168_0; first | rwa [add_block] at this | exact this) GW173.out))) _).trans (((cell_far (p := ⟨gb173, _, none⟩) (by first | exact Nat.ne_of_lt (Nat.lt_of_lt_of_le (by have := World.block_lt_of_cell? _ _ hw168_0; first | rwa [add_block] at this | exact this) GW173.out) | (rw [add_block]; exact Nat.ne_of_lt (Nat.lt_of_lt_of_le (by have := World.block_lt_of_cell? _ _ hw168_0; first | rwa [add_block] at this | exact this) GW173.out)) | (show (Addr.add _ _).block ≠ _; rw [add_block]; exact Nat.ne_of_lt (Nat.lt_of_lt_of_le (by have := World.block_lt_of_cell? _ _ hw168_0; first | rwa [add_block] at this | exact this) GW173.out)) | (dsimp only; exact Nat.ne_of_lt (Nat.lt_of_lt_of_le (by have := World.block_lt_of_cell? _ _ hw168_0; first | rwa [add_block] at this | exact this) GW173.out))) _).trans (((cell_far (p := ⟨gb173, _, none⟩) (by first | exact Nat.ne_of_lt (Nat.lt_of_lt_of_le (by have := World.block_lt_of_cell? _ _ hw168_0; first | rwa [add_block] at this | exact this) GW173.out) | (rw [add_block]; exact Nat.ne_of_lt (Nat.lt_of_lt_of_le (by have := World.block_lt_of_cell? _ _ hw168_0; first | rwa [add_block] at this | exact this) GW173.out)) | (show (Addr.add _ _).block ≠ _; rw [add_block]; exact Nat.ne_of_lt (Nat.lt_of_lt_of_le (by have := World.block_lt_of_cell? _ _ hw168_0; first | rwa [add_block] at this | exact this) GW173.out)) | (dsimp only; exact Nat.ne_of_lt (Nat.lt_of_lt_of_le (by have := World.block_lt_of_cell? _ _ hw168_0; first | rwa [add_block] at this | exact this) GW173.out))) _).trans (((cell_far (p := ⟨gb173, _, none⟩) (by first | exact Nat.ne_of_lt (Nat.lt_of_lt_of_le (by have := World.block_lt_of_cell? _ _ hw168_0; first | rwa [add_block] at this | exact this) GW173.out) | (rw [add_block]; exact Nat.ne_of_lt (Nat.lt_of_lt_of_le (by have := World.block_lt_of_cell? _ _ hw168_0; first | rwa [add_block] at this | exact this) GW173.out)) | (show (Addr.add _ _).block ≠ _; rw [add_block]; exact Nat.ne_of_lt (Nat.lt_of_lt_of_le (by have := World.block_lt_of_cell? _ _ hw168_0; first | rwa [add_block] at this | exact this) GW173.out)) | (dsimp only; exact Nat.ne_of_lt (Nat.lt_of_lt_of_le (by have := World.block_lt_of_cell? _ _ hw168_0; first | rwa [add_block] at this | exact this) GW173.out))) _).trans (hHeld.2.2))))))))))))))))))))))⟩ (fun hHeld => ?_)
 clear hK K
 refine done_ (done_of HT_.out (by kernel_rfl)) ?_
 obtain ⟨i03019, hi03019, _, hsz3019, _⟩ := info_parts info5
 obtain ⟨A3019, hcut3019, hA3019, hC3019⟩ := print_mid_of (P := Try.prog) (Value.int .u8) 0 22 5 .i64 .i64 Try.underlying22 hi03019 hsz3019 (some ad156) c0 l0 20 (ji1005) (by omega) (by first | omega | exact of_decide_eq_true (by first | (with_reducible assumption) | assumption)) (of_decide_eq_true (by first | (with_reducible assumption) | assumption)) HC0.out
 have HR174 := Aside0.mk (Kd.C_of_reads (h1 := fun _ => rfl) (hA3019 _ (Kd.reads_of_C HR0.out)))
 have HC174 := Aside0.mk hC3019
 clear hA3019 hC3019 hi03019 hsz3019
 )
 iterate 2 (
 focus (
 try go_wp2_with (first | ((with_reducible refine gate_callee (f := 80) rfl ?_); refine goesL_ (some 92) rfl rfl Try.func80 (by kernel_rfl) rfl #[.slice A3019 ((l0.take ((ji1005) : Int).toNat).drop 20).length (c0 - 20)] rfl (by (try simp only [List.map_toArray, List.map_cons, List.map_nil]); first | done | (rw [show ((l0.take ((ji1005) : Int).toNat).drop 20).length = ((ji1005).toNat - 20) from (by rw [List.length_drop, List.length_take]; have h_ : ((ji1005) : Int) ≤ (l0.length : Int) := of_decide_eq_true (by first | (with_reducible assumption) | assumption); omega)] <;> rfl) | (simp only [hji1005]; rfl) | rfl | (simp only [List.length_drop, List.length_take]; rfl)) ?_; (with_reducible refine (impl_dup.calls _ _ ((l0.take ((ji1005) : Int).toNat).drop 20) t175 _ ?side1 ?side2 A2022.out).mono ?_); (case side1 => exact Kd.C_below HR174.out wB); (case side2 => exact HC174.out); rintro e w3020 ⟨v176, rfl, ho0, hb⟩; refine ⟨_, rfl, ?_⟩; have n0_ := Aside0.mk (Kd.R_lower ho0 (below_size wB)); have n1_ := Aside0.mk (blk_below (g := gb154) (o := .cells #[.int .i64 0, .int .i64 0, .bool false, .bool false, .int .i64 0, .int .i64 0, .int .i64 0, .int .i64 0, .int .i64 0, .slice none 0 0, .slice none 0 0] 51 (0, 0)) (by (with_reducible repeat (first | refine blk_drewN ?_ _ | refine blk_drew ?_ | refine blk_alloc ?_ _)); refine blk_far ?_ NB154_173.out _; (with_reducible repeat (first | refine blk_drewN ?_ _ | refine blk_drew ?_ | refine blk_alloc ?_ _)); refine blk_far ?_ NB154_173.out _; (with_reducible repeat (first | refine blk_drewN ?_ _ | refine blk_drew ?_ | refine blk_alloc ?_ _)); refine blk_far ?_ NB154_173.out _; (with_reducible repeat (first | refine blk_drewN ?_ _ | refine blk_drew ?_ | refine blk_alloc ?_ _)); refine blk_far ?_ NB154_173.out _; (with_reducible repeat (first | refine blk_drewN ?_ _ | refine blk_drew ?_ | refine blk_alloc ?_ _)); refine blk_far ?_ NB154_173.out _; (with_reducible repeat (first | refine blk_drewN ?_ _ | refine blk_drew ?_ | refine blk_alloc ?_ _)); refine blk_far ?_ NB154_173.out _; (with_reducible repeat (first | refine blk_drewN ?_ _ | refine blk_drew ?_ | refine blk_alloc ?_ _)); refine blk_far ?_ NB154_173.out _; (with_reducible repeat (first | refine blk_drewN ?_ _ | refine blk_drew ?_ | refine blk_alloc ?_ _)); refine blk_far ?_ NB154_173.out _; (with_reducible repeat (first | refine blk_drewN ?_ _ | refine blk_drew ?_ | refine blk_alloc ?_ _)); refine blk_far ?_ NB154_173.out _; (with_reducible repeat (first | refine blk_drewN ?_ _ | refine blk_drew ?_ | refine blk_alloc ?_ _)); refine blk_far ?_ NB154_173.out _; (with_reducible repeat (first | refine blk_drewN ?_ _ | refine blk_drew ?_ | refine blk_alloc ?_ _)); refine blk_far ?_ NB154_173.out _; (with_reducible repeat (first | refine blk_drewN ?_ _ | refine blk_drew ?_ | refine blk_alloc ?_ _)); exact BK154.out) hb); have n2_ := Aside0.mk (blk_below (g := gb155) (o := .cells #[.int .i64 0, .int .i64 0, .bool false, .bool false, .int .i64 0, .int .i64 0, .int .i64 0, .int .i64 0, .int .i64 0, .slice none 0 0, .slice none 0 0] 51 (0, 0)) (by (with_reducible repeat (first | refine blk_drewN ?_ _ | refine blk_drew ?_ | refine blk_alloc ?_ _)); refine blk_far ?_ NB155_173.out _; (with_reducible repeat (first | refine blk_drewN ?_ _ | refine blk_drew ?_ | refine blk_alloc ?_ _)); refine blk_far ?_ NB155_173.out _; (with_reducible repeat (first | refine blk_drewN ?_ _ | refine blk_drew ?_ | refine blk_alloc ?_ _)); refine blk_far ?_ NB155_173.out _; (with_reducible repeat (first | refine blk_drewN ?_ _ | refine blk_drew ?_ | refine blk_alloc ?_ _)); refine blk_far ?_ NB155_173.out _; (with_reducible repeat (first | refine blk_drewN ?_ _ | refine blk_drew ?_ | refine blk_alloc ?_ _)); refine blk_far ?_ NB155_173.out _; (with_reducible repeat (first | refine blk_drewN ?_ _ | refine blk_drew ?_ | refine blk_alloc ?_ _)); refine blk_far ?_ NB155_173.out _; (with_reducible repeat (first | refine blk_drewN ?_ _ | refine blk_drew ?_ | refine blk_alloc ?_ _)); refine blk_far ?_ NB155_173.out _; (with_reducible repeat (first | refine blk_drewN ?_ _ | refine blk_drew ?_ | refine blk_alloc ?_ _)); refine blk_far ?_ NB155_173.out _; (with_reducible repeat (first | refine blk_drewN ?_ _ | refine blk_drew ?_ | refine blk_alloc ?_ _)); refine blk_far ?_ NB155_173.out _; (with_reducible repeat (first | refine blk_drewN ?_ _ | refine blk_drew ?_ | refine blk_alloc ?_ _)); refine blk_far ?_ NB155_173.out _; (with_reducible repeat (first | refine blk_drewN ?_ _ | refine blk_drew ?_ | refine blk_alloc ?_ _)); refine blk_far ?_ NB155_173.out _; (with_reducible repeat (first | refine blk_drewN ?_ _ | refine blk_drew ?_ | refine blk_alloc ?_ _)); exact BK155.out) hb); have n3_ := Aside0.mk (blk_below (g := gb173) (o := .cells #[.int .i64 (wrap64 (rd l0 1)), .int .i64 t166, .bool ((Go.bits .and .i64 (t163 / 16384) 1) == 1), .bool ((Go.bits .and .i64 (t163 / 8192) 1) == 1), .int .i64 (wrap64 ((Go.bits .and .i64 t163 8191) * 8)), .int .i64 (wrap64 (rd l0 8)), .int .i64 (wrap64 (rd l0 9)), .int .i64 t170, .int .i64 t172, .slice none 0 0, .slice none 0 0] 51 (0, 0)) (by (with_reducible repeat (first | refine blk_drewN ?_ _ | refine blk_drew ?_ | refine blk_alloc ?_ _)); refine blk_put (cs := #[.int .i64 (wrap64 (rd l0 1)), .int .i64 t166, .bool ((Go.bits .and .i64 (t163 / 16384) 1) == 1), .bool ((Go.bits .and .i64 (t163 / 8192) 1) == 1), .int .i64 (wrap64 ((Go.bits .and .i64 t163 8191) * 8)), .int .i64 (wrap64 (rd l0 8)), .int .i64 (wrap64 (rd l0 9)), .int .i64 t170, .int .i64 t172, .slice none 0 0, .slice none 0 0]) ?_ 10 _ rfl; (with_reducible repeat (first | refine blk_drewN ?_ _ | refine blk_drew ?_ | refine blk_alloc ?_ _)); refine blk_put (cs := #[.int .i64 (wrap64 (rd l0 1)), .int .i64 t166, .bool ((Go.bits .and .i64 (t163 / 16384) 1) == 1), .bool ((Go.bits .and .i64 (t163 / 8192) 1) == 1), .int .i64 (wrap64 ((Go.bits .and .i64 t163 8191) * 8)), .int .i64 (wrap64 (rd l0 8)), .int .i64 (wrap64 (rd l0 9)), .int .i64 t170, .int .i64 t172, .slice none 0 0, .slice none 0 0]) ?_ 9 _ rfl; (with_reducible repeat (first | refine blk_drewN ?_ _ | refine blk_drew ?_ | refine blk_alloc ?_ _)); refine blk_put (cs := #[.int .i64 (wrap64 (rd l0 1)), .int .i64 t166, .bool ((Go.bits .and .i64 (t163 / 16384) 1) == 1), .bool ((Go.bits .and .i64 (t163 / 8192) 1) == 1), .int .i64 (wrap64 ((Go.bits .and .i64 t163 8191) * 8)), .int .i64 (wrap64 (rd l0 8)), .int .i64 (wrap64 (rd l0 9)), .int .i64 t170, .int .i64 0, .slice none 0 0, .slice none 0 0]) ?_ 8 _ rfl; (with_reducible repeat (first | refine blk_drewN ?_ _ | refine blk_drew ?_ | refine blk_alloc ?_ _)); refine blk_put (cs := #[.int .i64 (wrap64 (rd l0 1)), .int .i64 t166, .bool ((Go.bits .and .i64 (t163 / 16384) 1) == 1), .bool ((Go.bits .and .i64 (t163 / 8192) 1) == 1), .int .i64 (wrap64 ((Go.bits .and .i64 t163 8191) * 8)), .int .i64 (wrap64 (rd l0 8)), .int .i64 (wrap64 (rd l0 9)), .int .i64 0, .int .i64 0, .slice none 0 0, .slice none 0 0]) ?_ 7 _ rfl; (with_reducible repeat (first | refine blk_drewN ?_ _ | refine blk_drew ?_ | refine blk_alloc ?_ _)); refine blk_put (cs := #[.int .i64 (wrap64 (rd l0 1)), .int .i64 t166, .bool ((Go.bits .and .i64 (t163 / 16384) 1) == 1), .bool ((Go.bits .and .i64 (t163 / 8192) 1) == 1), .int .i64 (wrap64 ((Go.bits .and .i64 t163 8191) * 8)), .int .i64 (wrap64 (rd l0 8)), .int .i64 0, .int .i64 0, .int .i64 0, .slice none 0 0, .slice none 0 0]) ?_ 6 _ rfl; (with_reducible repeat (first | refine blk_drewN ?_ _ | refine blk_drew ?_ | refine blk_alloc ?_ _)); refine blk_put (cs := #[.int .i64 (wrap64 (rd l0 1)), .int .i64 t166, .bool ((Go.bits .and .i64 (t163 / 16384) 1) == 1), .bool ((Go.bits .and .i64 (t163 / 8192) 1) == 1), .int .i64 (wrap64 ((Go.bits .and .i64 t163 8191) * 8)), .int .i64 0, .int .i64 0, .int .i64 0, .int .i64 0, .slice none 0 0, .slice none 0 0]) ?_ 5 _ rfl; (with_reducible repeat (first | refine blk_drewN ?_ _ | refine blk_drew ?_ | refine blk_alloc ?_ _)); refine blk_put (cs := #[.int .i64 (wrap64 (rd l0 1)), .int .i64 t166, .bool ((Go.bits .and .i64 (t163 / 16384) 1) == 1), .bool ((Go.bits .and .i64 (t163 / 8192) 1) == 1), .int .i64 0, .int .i64 0, .int .i64 0, .int .i64 0, .int .i64 0, .slice none 0 0, .slice none 0 0]) ?_ 4 _ rfl; (with_reducible repeat (first | refine blk_drewN ?_ _ | refine blk_drew ?_ | refine blk_alloc ?_ _)); refine blk_put (cs := #[.int .i64 (wrap64 (rd l0 1)), .int .i64 t166, .bool ((Go.bits .and .i64 (t163 / 16384) 1) == 1), .bool false, .int .i64 0, .int .i64 0, .int .i64 0, .int .i64 0, .int .i64 0, .slice none 0 0, .slice none 0 0]) ?_ 3 _ rfl; (with_reducible repeat (first | refine blk_drewN ?_ _ | refine blk_drew ?_ | refine blk_alloc ?_ _)); refine blk_put (cs := #[.int .i64 (wrap64 (rd l0 1)), .int .i64 t166, .bool false, .bool false, .int .i64 0, .int .i64 0, .int .i64 0, .int .i64 0, .int .i64 0, .slice none 0 0, .slice none 0 0]) ?_ 2 _ rfl; (with_reducible repeat (first | refine blk_drewN ?_ _ | refine blk_drew ?_ | refine blk_alloc ?_ _)); refine blk_put (cs := #[.int .i64 (wrap64 (rd l0 1)), .int .i64 0, .bool false, .bool false, .int .i64 0, .int .i64 0, .int .i64 0, .int .i64 0, .int .i64 0, .slice none 0 0, .slice none 0 0]) ?_ 1 _ rfl; (with_reducible repeat (first | refine blk_drewN ?_ _ | refine blk_drew ?_ | refine blk_alloc ?_ _)); refine blk_put (cs := #[.int .i64 0, .int .i64 0, .bool false, .bool false, .int .i64 0, .int .i64 0, .int .i64 0, .int .i64 0, .int .i64 0, .slice none 0 0, .slice none 0 0]) ?_ 0 _ rfl; (with_reducible repeat (first | refine blk_drewN ?_ _ | refine blk_drew ?_ | refine blk_alloc ?_ _)); exact BK173.out) hb); have n4_ := Aside0.mk (below_step wB hb); clear BK154; clear BK155; clear BK173; clear HB; have HO177 := n0_; have BK154 := n1_; have BK155 := n2_; have BK173 := n3_; have HB := n4_; clear n0_ n1_ n2_ n3_ n4_; (try clear hb); (try clear hb2); (try clear hk); (try clear hi); (try clear ho0); obtain ⟨Ao3021, co3021, eo3021⟩ := Kd.R_slice HO177.out; subst eo3021; have hnb3022 := NB173_154.out; have hnc3022 := NB154_173.out; have hnb3023 := NB173_155.out; have hnc3023 := NB155_173.out; obtain ⟨⟨hcz3024_0, hcz3024_1, hcz3024_2, hcz3024_3, hcz3024_4, hcz3024_5, hcz3024_6, hcz3024_7, hcz3024_8, hcz3024_9, hcz3024_10⟩, hfz3024_0, hfz3024_1, hfz3024_2, hfz3024_3, hfz3024_4, hfz3024_5, hfz3024_6, hfz3024_7, hfz3024_8, hfz3024_9, hfz3024_10⟩ := cells11 BK173.out; obtain ⟨i03025, hi03025, _, hsz3025, _⟩ := info_parts info5; obtain ⟨A3025, hcut3025, hA3025, hC3025⟩ := print_mid_of (P := Try.prog) (Value.int .u8) 0 22 5 .i64 .i64 Try.underlying22 hi03025 hsz3025 (some ad156) c0 l0 (ji1005) t161 (of_decide_eq_true (by first | (with_reducible assumption) | assumption)) (by first | omega | exact of_decide_eq_true (by first | (with_reducible assumption) | assumption)) (of_decide_eq_true (by first | (with_reducible assumption) | assumption)) HC0.out; have HR178 := Aside0.mk (Kd.C_of_reads (h1 := fun _ => rfl) (hA3025 _ (Kd.reads_of_C HR0.out))); have HC178 := Aside0.mk hC3025; clear hA3025 hC3025 hi03025 hsz3025) | ((with_reducible refine gate_callee (f := 80) rfl ?_); refine goesL_ (some 98) rfl rfl Try.func80 (by kernel_rfl) rfl #[.slice A3025 ((l0.take (t161 : Int).toNat).drop ((ji1005) : Int).toNat).length (c0 - (ji1005).toNat)] rfl (by (try simp only [List.map_toArray, List.map_cons, List.map_nil]); first | done | (rw [show ((l0.take (t161 : Int).toNat).drop ((ji1005) : Int).toNat).length = (t161.toNat - (ji1005).toNat) from (by rw [List.length_drop, List.length_take]; have h_ : (t161 : Int) ≤ (l0.length : Int) := of_decide_eq_true (by first | (with_reducible assumption) | assumption); omega)] <;> rfl) | (simp only [hji1005]; rfl) | rfl | (simp only [List.length_drop, List.length_take]; rfl)) ?_; (with_reducible refine (impl_dup.calls _ _ ((l0.take (t161 : Int).toNat).drop ((ji1005) : Int).toNat) t179 _ ?side1 ?side2 A2026.out).mono ?_); (case side1 => exact Kd.C_below HR178.out wB); (case side2 => exact HC178.out); rintro e w3026 ⟨v180, rfl, ho0, hb⟩; refine ⟨_, rfl, ?_⟩; have n0_ := Aside0.mk (Kd.R_elder' (by (with_reducible repeat (first | apply Kd.R_alloc | apply Kd.R_drewN | apply Kd.R_drew)); exact (Kd.R_mono (Kd.R_far (p := ⟨gb173, 9, none⟩) (Kd.R_types HO177.out BK173.out (by decide)) (fun _ hk => hk.2) (.slice Ao3021 t175.length co3021)) (fun _ h_ => h_.1))) (Kd.R_base ho0) hb); have n1_ := Aside0.mk (Kd.R_lower (Kd.R_new' ho0 (Kd.R_lt (by (with_reducible repeat (first | apply Kd.R_alloc | apply Kd.R_drewN | apply Kd.R_drew)); exact (Kd.R_mono (Kd.R_far (p := ⟨gb173, 9, none⟩) (Kd.R_types HO177.out BK173.out (by decide)) (fun _ hk => hk.2) (.slice Ao3021 t175.length co3021)) (fun _ h_ => h_.1))))) (below_size wB)); have n2_ := Aside0.mk (blk_below (g := gb154) (o := .cells #[.int .i64 0, .int .i64 0, .bool false, .bool false, .int .i64 0, .int .i64 0, .int .i64 0, .int .i64 0, .int .i64 0, .slice none 0 0, .slice none 0 0] 51 (0, 0)) (by (with_reducible repeat (first | refine blk_drewN ?_ _ | refine blk_drew ?_ | refine blk_alloc ?_ _)); refine blk_far ?_ NB154_173.out _; (with_reducible repeat (first | refine blk_drewN ?_ _ | refine blk_drew ?_ | refine blk_alloc ?_ _)); exact BK154.out) hb); have n3_ := Aside0.mk (blk_below (g := gb155) (o := .cells #[.int .i64 0, .int .i64 0, .bool false, .bool false, .int .i64 0, .int .i64 0, .int .i64 0, .int .i64 0, .int .i64 0, .slice none 0 0, .slice none 0 0] 51 (0, 0)) (by (with_reducible repeat (first | refine blk_drewN ?_ _ | refine blk_drew ?_ | refine blk_alloc ?_ _)); refine blk_far ?_ NB155_173.out _; (with_reducible repeat (first | refine blk_drewN ?_ _ | refine blk_drew ?_ | refine blk_alloc ?_ _)); exact BK155.out) hb); have n4_ := Aside0.mk (blk_below (g := gb173) (o := .cells #[.int .i64 (wrap64 (rd l0 1)), .int .i64 t166, .bool ((Go.bits .and .i64 (t163 / 16384) 1) == 1), .bool ((Go.bits .and .i64 (t163 / 8192) 1) == 1), .int .i64 (wrap64 ((Go.bits .and .i64 t163 8191) * 8)), .int .i64 (wrap64 (rd l0 8)), .int .i64 (wrap64 (rd l0 9)), .int .i64 t170, .int .i64 t172, .slice Ao3021 t175.length co3021, .slice none 0 0] 51 (0, 0)) (by (with_reducible repeat (first | refine blk_drewN ?_ _ | refine blk_drew ?_ | refine blk_alloc ?_ _)); refine blk_put (cs := #[.int .i64 (wrap64 (rd l0 1)), .int .i64 t166, .bool ((Go.bits .and .i64 (t163 / 16384) 1) == 1), .bool ((Go.bits .and .i64 (t163 / 8192) 1) == 1), .int .i64 (wrap64 ((Go.bits .and .i64 t163 8191) * 8)), .int .i64 (wrap64 (rd l0 8)), .int .i64 (wrap64 (rd l0 9)), .int .i64 t170, .int .i64 t172, .slice none 0 0, .slice none 0 0]) ?_ 9 _ rfl; (with_reducible repeat (first | refine blk_drewN ?_ _ | refine blk_drew ?_ | refine blk_alloc ?_ _)); exact BK173.out) hb); have n5_ := Aside0.mk (below_step wB hb); clear HO177; clear BK154; clear BK155; clear BK173; clear HB; have HO177 := n0_; have HO181 := n1_; have BK154 := n2_; have BK155 := n3_; have BK173 := n4_; have HB := n5_; clear n0_ n1_ n2_ n3_ n4_ n5_; (try clear hb); (try clear hb2); (try clear hk); (try clear hi); (try clear ho0); obtain ⟨Ao3027, co3027, eo3027⟩ := Kd.R_slice HO181.out; subst eo3027; obtain ⟨⟨hcz3028_0, hcz3028_1, hcz3028_2, hcz3028_3, hcz3028_4, hcz3028_5, hcz3028_6, hcz3028_7, hcz3028_8, hcz3028_9, hcz3028_10⟩, hfz3028_0, hfz3028_1, hfz3028_2, hfz3028_3, hfz3028_4, hfz3028_5, hfz3028_6, hfz3028_7, hfz3028_8, hfz3028_9, hfz3028_10⟩ := cells11 BK173.out; have hnb3029 := NB155_154.out; have hnc3029 := NB154_155.out; obtain ⟨⟨hcz3030_0, hcz3030_1, hcz3030_2, hcz3030_3, hcz3030_4, hcz3030_5, hcz3030_6, hcz3030_7, hcz3030_8, hcz3030_9, hcz3030_10⟩, hfz3030_0, hfz3030_1, hfz3030_2, hfz3030_3, hfz3030_4, hfz3030_5, hfz3030_6, hfz3030_7, hfz3030_8, hfz3030_9, hfz3030_10⟩ := cells11 BK155.out; obtain ⟨⟨hcz3031_0, hcz3031_1, hcz3031_2, hcz3031_3, hcz3031_4, hcz3031_5, hcz3031_6, hcz3031_7, hcz3031_8, hcz3031_9, hcz3031_10⟩, hfz3031_0, hfz3031_1, hfz3031_2, hfz3031_3, hfz3031_4, hfz3031_5, hfz3031_6, hfz3031_7, hfz3031_8, hfz3031_9, hfz3031_10⟩ := cells11 BK154.out) | ((with_reducible refine gate_store (t := 51) (p := 2) rfl ?_); (try (rw [drewN_self w3026]; generalize hq_ : World.drewN w3026 _ = w3026; have n0_ := Aside0.mk (Kd.R_at hq_ HO177.out); have n1_ := Aside0.mk (Kd.R_at hq_ HO181.out); have n2_ := Aside0.mk (blk_at hq_ BK154.out); have n3_ := Aside0.mk (blk_at hq_ BK155.out); have n4_ := Aside0.mk (blk_at hq_ BK173.out); have n5_ := Aside0.mk (below_at hq_ HB.out); clear hq_ HO177 HO181 BK154 BK155 BK173 HB; have HO177 := n0_; have HO181 := n1_; have BK154 := n2_; have BK155 := n3_; have BK173 := n4_; have HB := n5_; clear n0_ n1_ n2_ n3_ n4_ n5_; (try (obtain ⟨⟨hcyBK154_0, hcyBK154_1, hcyBK154_2, hcyBK154_3, hcyBK154_4, hcyBK154_5, hcyBK154_6, hcyBK154_7, hcyBK154_8, hcyBK154_9, hcyBK154_10⟩, hfyBK154_0, hfyBK154_1, hfyBK154_2, hfyBK154_3, hfyBK154_4, hfyBK154_5, hfyBK154_6, hfyBK154_7, hfyBK154_8, hfyBK154_9, hfyBK154_10⟩ := cells11 BK154.out)); (try (obtain ⟨⟨hcyBK155_0, hcyBK155_1, hcyBK155_2, hcyBK155_3, hcyBK155_4, hcyBK155_5, hcyBK155_6, hcyBK155_7, hcyBK155_8, hcyBK155_9, hcyBK155_10⟩, hfyBK155_0, hfyBK155_1, hfyBK155_2, hfyBK155_3, hfyBK155_4, hfyBK155_5, hfyBK155_6, hfyBK155_7, hfyBK155_8, hfyBK155_9, hfyBK155_10⟩ := cells11 BK155.out)); (try (obtain ⟨⟨hcyBK173_0, hcyBK173_1, hcyBK173_2, hcyBK173_3, hcyBK173_4, hcyBK173_5, hcyBK173_6, hcyBK173_7, hcyBK173_8, hcyBK173_9, hcyBK173_10⟩, hfyBK173_0, hfyBK173_1, hfyBK173_2, hfyBK173_3, hfyBK173_4, hfyBK173_5, hfyBK173_6, hfyBK173_7, hfyBK173_8, hfyBK173_9, hfyBK173_10⟩ := cells11 BK173.out)))); refine store_event (t := 51) (p := 2) (v := ?_) (w1 := ((((((((((((w3026.setCell ⟨gb173, 10, none⟩ (.slice Ao3027 t179.length co3027)).setCell ⟨gb154, 0, none⟩ (.int .i64 0)).setCell ⟨gb154, 1, none⟩ (.int .i64 0)).setCell ⟨gb154, 2, none⟩ (.bool false)).setCell ⟨gb154, 3, none⟩ (.bool false)).setCell ⟨gb154, 4, none⟩ (.int .i64 0)).setCell ⟨gb154, 5, none⟩ (.int .i64 0)).setCell ⟨gb154, 6, none⟩ (.int .i64 0)).setCell ⟨gb154, 7, none⟩ (.int .i64 0)).setCell ⟨gb154, 8, none⟩ (.int .i64 0)).setCell ⟨gb154, 9, none⟩ (.slice none 0 0)).setCell ⟨gb154, 10, none⟩ (.slice none 0 0))) ?hg ?ho ?hn ?hr ?_; (case ho => rfl); (case hg => rfl); (case hn => rfl); (case hr => first | (go_simp; done) | (go_simp; rfl)); intro w3032 hw; have n0_ : Aside0 (Kd.R (Kd.int .u8) 5 w3032 w.heap.size (fun k_ => some k_ ≠ (.slice Ao3027 t179.length co3027 : Value).ownBlock) (.slice Ao3021 t175.length co3021) t175) := ⟨(by rw [hw]; exact (by (with_reducible repeat (first | apply Kd.R_alloc | apply Kd.R_drewN | apply Kd.R_drew)); exact Kd.R_mono (Kd.R_far (p := ⟨gb154, 10, none⟩) (Kd.R_far (p := ⟨gb154, 9, none⟩) (Kd.R_far (p := ⟨gb154, 8, none⟩) (Kd.R_far (p := ⟨gb154, 7, none⟩) (Kd.R_far (p := ⟨gb154, 6, none⟩) (Kd.R_far (p := ⟨gb154, 5, none⟩) (Kd.R_far (p := ⟨gb154, 4, none⟩) (Kd.R_far (p := ⟨gb154, 3, none⟩) (Kd.R_far (p := ⟨gb154, 2, none⟩) (Kd.R_far (p := ⟨gb154, 1, none⟩) (Kd.R_far (p := ⟨gb154, 0, none⟩) (Kd.R_far (p := ⟨gb173, 10, none⟩) (Kd.R_types (Kd.R_types HO177.out BK173.out (by decide)) BK154.out (by decide)) (fun _ hk => hk.1.2) (.slice Ao3027 t179.length co3027)) (fun _ hk => hk.2) (.int .i64 0)) (fun _ hk => hk.2) (.int .i64 0)) (fun _ hk => hk.2) (.bool false)) (fun _ hk => hk.2) (.bool false)) (fun _ hk => hk.2) (.int .i64 0)) (fun _ hk => hk.2) (.int .i64 0)) (fun _ hk => hk.2) (.int .i64 0)) (fun _ hk => hk.2) (.int .i64 0)) (fun _ hk => hk.2) (.int .i64 0)) (fun _ hk => hk.2) (.slice none 0 0)) (fun _ hk => hk.2) (.slice none 0 0)) (fun _ hk => hk.1.1.2)))⟩; have n1_ : Aside0 (Kd.R (Kd.int .u8) 5 w3032 w.heap.size (fun k_ => some k_ ≠ (.slice Ao3021 t175.length co3021 : Value).ownBlock) (.slice Ao3027 t179.length co3027) t179) := ⟨(by rw [hw]; exact (by (with_reducible repeat (first | apply Kd.R_alloc | apply Kd.R_drewN | apply Kd.R_drew)); exact Kd.R_mono (Kd.R_far (p := ⟨gb154, 10, none⟩) (Kd.R_far (p := ⟨gb154, 9, none⟩) (Kd.R_far (p := ⟨gb154, 8, none⟩) (Kd.R_far (p := ⟨gb154, 7, none⟩) (Kd.R_far (p := ⟨gb154, 6, none⟩) (Kd.R_far (p := ⟨gb154, 5, none⟩) (Kd.R_far (p := ⟨gb154, 4, none⟩) (Kd.R_far (p := ⟨gb154, 3, none⟩) (Kd.R_far (p := ⟨gb154, 2, none⟩) (Kd.R_far (p := ⟨gb154, 1, none⟩) (Kd.R_far (p := ⟨gb154, 0, none⟩) (Kd.R_far (p := ⟨gb173, 10, none⟩) (Kd.R_types (Kd.R_types HO181.out BK173.out (by decide)) BK154.out (by decide)) (fun _ hk => hk.1.2) (.slice Ao3027 t179.length co3027)) (fun _ hk => hk.2) (.int .i64 0)) (fun _ hk => hk.2) (.int .i64 0)) (fun _ hk => hk.2) (.bool false)) (fun _ hk => hk.2) (.bool false)) (fun _ hk => hk.2) (.int .i64 0)) (fun _ hk => hk.2) (.int .i64 0)) (fun _ hk => hk.2) (.int .i64 0)) (fun _ hk => hk.2) (.int .i64 0)) (fun _ hk => hk.2) (.int .i64 0)) (fun _ hk => hk.2) (.slice none 0 0)) (fun _ hk => hk.2) (.slice none 0 0)) (fun _ hk => hk.1.1.2)))⟩; have n2_ : Aside0 (w3032.heap[gb154]? = some (.cells #[.int .i64 0, .int .i64 0, .bool false, .bool false, .int .i64 0, .int .i64 0, .int .i64 0, .int .i64 0, .int .i64 0, .slice none 0 0, .slice none 0 0] 51 (0, 0))) := ⟨(by rw [hw]; exact (by (with_reducible repeat (first | refine blk_drewN ?_ _ | refine blk_drew ?_ | refine blk_alloc ?_ _)); refine blk_put (cs := #[.int .i64 0, .int .i64 0, .bool false, .bool false, .int .i64 0, .int .i64 0, .int .i64 0, .int .i64 0, .int .i64 0, .slice none 0 0, .slice none 0 0]) ?_ 10 _ rfl; (with_reducible repeat (first | refine blk_drewN ?_ _ | refine blk_drew ?_ | refine blk_alloc ?_ _)); refine blk_put (cs := #[.int .i64 0, .int .i64 0, .bool false, .bool false, .int .i64 0, .int .i64 0, .int .i64 0, .int .i64 0, .int .i64 0, .slice none 0 0, .slice none 0 0]) ?_ 9 _ rfl; (with_reducible repeat (first | refine blk_drewN ?_ _ | refine blk_drew ?_ | refine blk_alloc ?_ _)); refine blk_put (cs := #[.int .i64 0, .int .i64 0, .bool false, .bool false, .int .i64 0, .int .i64 0, .int .i64 0, .int .i64 0, .int .i64 0, .slice none 0 0, .slice none 0 0]) ?_ 8 _ rfl; (with_reducible repeat (first | refine blk_drewN ?_ _ | refine blk_drew ?_ | refine blk_alloc ?_ _)); refine blk_put (cs := #[.int .i64 0, .int .i64 0, .bool false, .bool false, .int .i64 0, .int .i64 0, .int .i64 0, .int .i64 0, .int .i64 0, .slice none 0 0, .slice none 0 0]) ?_ 7 _ rfl; (with_reducible repeat (first | refine blk_drewN ?_ _ | refine blk_drew ?_ | refine blk_alloc ?_ _)); refine blk_put (cs := #[.int .i64 0, .int .i64 0, .bool false, .bool false, .int .i64 0, .int .i64 0, .int .i64 0, .int .i64 0, .int .i64 0, .slice none 0 0, .slice none 0 0]) ?_ 6 _ rfl; (with_reducible repeat (first | refine blk_drewN ?_ _ | refine blk_drew ?_ | refine blk_alloc ?_ _)); refine blk_put (cs := #[.int .i64 0, .int .i64 0, .bool false, .bool false, .int .i64 0, .int .i64 0, .int .i64 0, .int .i64 0, .int .i64 0, .slice none 0 0, .slice none 0 0]) ?_ 5 _ rfl; (with_reducible repeat (first | refine blk_drewN ?_ _ | refine blk_drew ?_ | refine blk_alloc ?_ _)); refine blk_put (cs := #[.int .i64 0, .int .i64 0, .bool false, .bool false, .int .i64 0, .int .i64 0, .int .i64 0, .int .i64 0, .int .i64 0, .slice none 0 0, .slice none 0 0]) ?_ 4 _ rfl; (with_reducible repeat (first | refine blk_drewN ?_ _ | refine blk_drew ?_ | refine blk_alloc ?_ _)); refine blk_put (cs := #[.int .i64 0, .int .i64 0, .bool false, .bool false, .int .i64 0, .int .i64 0, .int .i64 0, .int .i64 0, .int .i64 0, .slice none 0 0, .slice none 0 0]) ?_ 3 _ rfl; (with_reducible repeat (first | refine blk_drewN ?_ _ | refine blk_drew ?_ | refine blk_alloc ?_ _)); refine blk_put (cs := #[.int .i64 0, .int .i64 0, .bool false, .bool false, .int .i64 0, .int .i64 0, .int .i64 0, .int .i64 0, .int .i64 0, .slice none 0 0, .slice none 0 0]) ?_ 2 _ rfl; (with_reducible repeat (first | refine blk_drewN ?_ _ | refine blk_drew ?_ | refine blk_alloc ?_ _)); refine blk_put (cs := #[.int .i64 0, .int .i64 0, .bool false, .bool false, .int .i64 0, .int .i64 0, .int .i64 0, .int .i64 0, .int .i64 0, .slice none 0 0, .slice none 0 0]) ?_ 1 _ rfl; (with_reducible repeat (first | refine blk_drewN ?_ _ | refine blk_drew ?_ | refine blk_alloc ?_ _)); refine blk_put (cs := #[.int .i64 0, .int .i64 0, .bool false, .bool false, .int .i64 0, .int .i64 0, .int .i64 0, .int .i64 0, .int .i64 0, .slice none 0 0, .slice none 0 0]) ?_ 0 _ rfl; (with_reducible repeat (first | refine blk_drewN ?_ _ | refine blk_drew ?_ | refine blk_alloc ?_ _)); refine blk_far ?_ NB154_173.out _; (with_reducible repeat (first | refine blk_drewN ?_ _ | refine blk_drew ?_ | refine blk_alloc ?_ _)); exact BK154.out))⟩; have n3_ : Aside0 (w3032.heap[gb155]? = some (.cells #[.int .i64 0, .int .i64 0, .bool false, .bool false, .int .i64 0, .int .i64 0, .int .i64 0, .int .i64 0, .int .i64 0, .slice none 0 0, .slice none 0 0] 51 (0, 0))) := ⟨(by rw [hw]; exact (by (with_reducible repeat (first | refine blk_drewN ?_ _ | refine blk_drew ?_ | refine blk_alloc ?_ _)); refine blk_far ?_ NB155_154.out _; (with_reducible repeat (first | refine blk_drewN ?_ _ | refine blk_drew ?_ | refine blk_alloc ?_ _)); refine blk_far ?_ NB155_154.out _; (with_reducible repeat (first | refine blk_drewN ?_ _ | refine blk_drew ?_ | refine blk_alloc ?_ _)); refine blk_far ?_ NB155_154.out _; (with_reducible repeat (first | refine blk_drewN ?_ _ | refine blk_drew ?_ | refine blk_alloc ?_ _)); refine blk_far ?_ NB155_154.out _; (with_reducible repeat (first | refine blk_drewN ?_ _ | refine blk_drew ?_ | refine blk_alloc ?_ _)); refine blk_far ?_ NB155_154.out _; (with_reducible repeat (first | refine blk_drewN ?_ _ | refine blk_drew ?_ | refine blk_alloc ?_ _)); refine blk_far ?_ NB155_154.out _; (with_reducible repeat (first | refine blk_drewN ?_ _ | refine blk_drew ?_ | refine blk_alloc ?_ _)); refine blk_far ?_ NB155_154.out _; (with_reducible repeat (first | refine blk_drewN ?_ _ | refine blk_drew ?_ | refine blk_alloc ?_ _)); refine blk_far ?_ NB155_154.out _; (with_reducible repeat (first | refine blk_drewN ?_ _ | refine blk_drew ?_ | refine blk_alloc ?_ _)); refine blk_far ?_ NB155_154.out _; (with_reducible repeat (first | refine blk_drewN ?_ _ | refine blk_drew ?_ | refine blk_alloc ?_ _)); refine blk_far ?_ NB155_154.out _; (with_reducible repeat (first | refine blk_drewN ?_ _ | refine blk_drew ?_ | refine blk_alloc ?_ _)); refine blk_far ?_ NB155_154.out _; (with_reducible repeat (first | refine blk_drewN ?_ _ | refine blk_drew ?_ | refine blk_alloc ?_ _)); refine blk_far ?_ NB155_173.out _; (with_reducible repeat (first | refine blk_drewN ?_ _ | refine blk_drew ?_ | refine blk_alloc ?_ _)); exact BK155.out))⟩; have n4_ : Aside0 (w3032.heap[gb173]? = some (.cells #[.int .i64 (wrap64 (rd l0 1)), .int .i64 t166, .bool ((Go.bits .and .i64 (t163 / 16384) 1) == 1), .bool ((Go.bits .and .i64 (t163 / 8192) 1) == 1), .int .i64 (wrap64 ((Go.bits .and .i64 t163 8191) * 8)), .int .i64 (wrap64 (rd l0 8)), .int .i64 (wrap64 (rd l0 9)), .int .i64 t170, .int .i64 t172, .slice Ao3021 t175.length co3021, .slice Ao3027 t179.length co3027] 51 (0, 0))) := ⟨(by rw [hw]; exact (by (with_reducible repeat (first | refine blk_drewN ?_ _ | refine blk_drew ?_ | refine blk_alloc ?_ _)); refine blk_far ?_ NB173_154.out _; (with_reducible repeat (first | refine blk_drewN ?_ _ | refine blk_drew ?_ | refine blk_alloc ?_ _)); refine blk_far ?_ NB173_154.out _; (with_reducible repeat (first | refine blk_drewN ?_ _ | refine blk_drew ?_ | refine blk_alloc ?_ _)); refine blk_far ?_ NB173_154.out _; (with_reducible repeat (first | refine blk_drewN ?_ _ | refine blk_drew ?_ | refine blk_alloc ?_ _)); refine blk_far ?_ NB173_154.out _; (with_reducible repeat (first | refine blk_drewN ?_ _ | refine blk_drew ?_ | refine blk_alloc ?_ _)); refine blk_far ?_ NB173_154.out _; (with_reducible repeat (first | refine blk_drewN ?_ _ | refine blk_drew ?_ | refine blk_alloc ?_ _)); refine blk_far ?_ NB173_154.out _; (with_reducible repeat (first | refine blk_drewN ?_ _ | refine blk_drew ?_ | refine blk_alloc ?_ _)); refine blk_far ?_ NB173_154.out _; (with_reducible repeat (first | refine blk_drewN ?_ _ | refine blk_drew ?_ | refine blk_alloc ?_ _)); refine blk_far ?_ NB173_154.out _; (with_reducible repeat (first | refine blk_drewN ?_ _ | refine blk_drew ?_ | refine blk_alloc ?_ _)); refine blk_far ?_ NB173_154.out _; (with_reducible repeat (first | refine blk_drewN ?_ _ | refine blk_drew ?_ | refine blk_alloc ?_ _)); refine blk_far ?_ NB173_154.out _; (with_reducible repeat (first | refine blk_drewN ?_ _ | refine blk_drew ?_ | refine blk_alloc ?_ _)); refine blk_far ?_ NB173_154.out _; (with_reducible repeat (first | refine blk_drewN ?_ _ | refine blk_drew ?_ | refine blk_alloc ?_ _)); refine blk_put (cs := #[.int .i64 (wrap64 (rd l0 1)), .int .i64 t166, .bool ((Go.bits .and .i64 (t163 / 16384) 1) == 1), .bool ((Go.bits .and .i64 (t163 / 8192) 1) == 1), .int .i64 (wrap64 ((Go.bits .and .i64 t163 8191) * 8)), .int .i64 (wrap64 (rd l0 8)), .int .i64 (wrap64 (rd l0 9)), .int .i64 t170, .int .i64 t172, .slice Ao3021 t175.length co3021, .slice none 0 0]) ?_ 10 _ rfl; (with_reducible repeat (first | refine blk_drewN ?_ _ | refine blk_drew ?_ | refine blk_alloc ?_ _)); exact BK173.out))⟩; have n5_ : Aside0 (Below w.heap.size w w3032) := ⟨(by rw [hw]; exact wB)⟩; clear hw; clear HO177; clear HO181; clear BK154; clear BK155; clear BK173; clear HB; have HO177 := n0_; have HO181 := n1_; have BK154 := n2_; have BK155 := n3_; have BK173 := n4_; have HB := n5_; clear n0_ n1_ n2_ n3_ n4_ n5_))
 refine bodyPost_ret (results_ct rfl _ _ gb154 51 #[.int .i64 0, .int .i64 0, .bool false, .bool false, .int .i64 0, .int .i64 0, .int .i64 0, .int .i64 0, .int .i64 0, .slice none 0 0, .slice none 0 0] (0, 0) _ rfl (Bh BK154) Try.underlying51 rfl (by kernel_rfl)) rfl ?_
 exact ⟨_, _, by first | rfl | (simp [errW_none, errW_some] <;> rfl) | (simp only [← hji1005]; first | rfl | (simp [errW_none, errW_some] <;> rfl)) | (simp [*, errW_none, errW_some] <;> rfl), by first | exact Kd.R_nil _ _ _ _ _ | exact Kd.N_nil _ _ _ _ _ | exact Kd.V_nil _ _ _ _ _ | exact Kd.Q_nil _ _ _ _ _ | exact Kd.S_nil _ _ _ _ _, by first | exact Kd.R_nil _ _ _ _ _ | exact Kd.N_nil _ _ _ _ _ | exact Kd.V_nil _ _ _ _ _ | exact Kd.Q_nil _ _ _ _ _ | exact Kd.S_nil _ _ _ _ _, wB⟩
 )
 )
 {
 try go_wp2_with (first | ((with_reducible refine gate_callee (f := 80) rfl ?_); refine goesL_ (some 92) rfl rfl Try.func80 (by kernel_rfl) rfl #[.slice A3019 ((l0.take ((ji1005) : Int).toNat).drop 20).length (c0 - 20)] rfl (by (try simp only [List.map_toArray, List.map_cons, List.map_nil]); first | done | (rw [show ((l0.take ((ji1005) : Int).toNat).drop 20).length = ((ji1005).toNat - 20) from (by rw [List.length_drop, List.length_take]; have h_ : ((ji1005) : Int) ≤ (l0.length : Int) := of_decide_eq_true (by first | (with_reducible assumption) | assumption); omega)] <;> rfl) | (simp only [hji1005]; rfl) | rfl | (simp only [List.length_drop, List.length_take]; rfl)) ?_; (with_reducible refine (impl_dup.calls _ _ ((l0.take ((ji1005) : Int).toNat).drop 20) t175 _ ?side1 ?side2 A2022.out).mono ?_); (case side1 => exact Kd.C_below HR174.out wB); (case side2 => exact HC174.out); rintro e w3020 ⟨v176, rfl, ho0, hb⟩; refine ⟨_, rfl, ?_⟩; have n0_ := Aside0.mk (Kd.R_lower ho0 (below_size wB)); have n1_ := Aside0.mk (blk_below (g := gb154) (o := .cells #[.int .i64 0, .int .i64 0, .bool false, .bool false, .int .i64 0, .int .i64 0, .int .i64 0, .int .i64 0, .int .i64 0, .slice none 0 0, .slice none 0 0] 51 (0, 0)) (by (with_reducible repeat (first | refine blk_drewN ?_ _ | refine blk_drew ?_ | refine blk_alloc ?_ _)); refine blk_far ?_ NB154_173.out _; (with_reducible repeat (first | refine blk_drewN ?_ _ | refine blk_drew ?_ | refine blk_alloc ?_ _)); refine blk_far ?_ NB154_173.out _; (with_reducible repeat (first | refine blk_drewN ?_ _ | refine blk_drew ?_ | refine blk_alloc ?_ _)); refine blk_far ?_ NB154_173.out _; (with_reducible repeat (first | refine blk_drewN ?_ _ | refine blk_drew ?_ | refine blk_alloc ?_ _)); refine blk_far ?_ NB154_173.out _; (with_reducible repeat (first | refine blk_drewN ?_ _ | refine blk_drew ?_ | refine blk_alloc ?_ _)); refine blk_far ?_ NB154_173.out _; (with_reducible repeat (first | refine blk_drewN ?_ _ | refine blk_drew ?_ | refine blk_alloc ?_ _)); refine blk_far ?_ NB154_173.out _; (with_reducible repeat (first | refine blk_drewN ?_ _ | refine blk_drew ?_ | refine blk_alloc ?_ _)); refine blk_far ?_ NB154_173.out _; (with_reducible repeat (first | refine blk_drewN ?_ _ | refine blk_drew ?_ | refine blk_alloc ?_ _)); refine blk_far ?_ NB154_173.out _; (with_reducible repeat (first | refine blk_drewN ?_ _ | refine blk_drew ?_ | refine blk_alloc ?_ _)); refine blk_far ?_ NB154_173.out _; (with_reducible repeat (first | refine blk_drewN ?_ _ | refine blk_drew ?_ | refine blk_alloc ?_ _)); refine blk_far ?_ NB154_173.out _; (with_reducible repeat (first | refine blk_drewN ?_ _ | refine blk_drew ?_ | refine blk_alloc ?_ _)); refine blk_far ?_ NB154_173.out _; (with_reducible repeat (first | refine blk_drewN ?_ _ | refine blk_drew ?_ | refine blk_alloc ?_ _)); exact BK154.out) hb); have n2_ := Aside0.mk (blk_below (g := gb155) (o := .cells #[.int .i64 0, .int .i64 0, .bool false, .bool false, .int .i64 0, .int .i64 0, .int .i64 0, .int .i64 0, .int .i64 0, .slice none 0 0, .slice none 0 0] 51 (0, 0)) (by (with_reducible repeat (first | refine blk_drewN ?_ _ | refine blk_drew ?_ | refine blk_alloc ?_ _)); refine blk_far ?_ NB155_173.out _; (with_reducible repeat (first | refine blk_drewN ?_ _ | refine blk_drew ?_ | refine blk_alloc ?_ _)); refine blk_far ?_ NB155_173.out _; (with_reducible repeat (first | refine blk_drewN ?_ _ | refine blk_drew ?_ | refine blk_alloc ?_ _)); refine blk_far ?_ NB155_173.out _; (with_reducible repeat (first | refine blk_drewN ?_ _ | refine blk_drew ?_ | refine blk_alloc ?_ _)); refine blk_far ?_ NB155_173.out _; (with_reducible repeat (first | refine blk_drewN ?_ _ | refine blk_drew ?_ | refine blk_alloc ?_ _)); refine blk_far ?_ NB155_173.out _; (with_reducible repeat (first | refine blk_drewN ?_ _ | refine blk_drew ?_ | refine blk_alloc ?_ _)); refine blk_far ?_ NB155_173.out _; (with_reducible repeat (first | refine blk_drewN ?_ _ | refine blk_drew ?_ | refine blk_alloc ?_ _)); refine blk_far ?_ NB155_173.out _; (with_reducible repeat (first | refine blk_drewN ?_ _ | refine blk_drew ?_ | refine blk_alloc ?_ _)); refine blk_far ?_ NB155_173.out _; (with_reducible repeat (first | refine blk_drewN ?_ _ | refine blk_drew ?_ | refine blk_alloc ?_ _)); refine blk_far ?_ NB155_173.out _; (with_reducible repeat (first | refine blk_drewN ?_ _ | refine blk_drew ?_ | refine blk_alloc ?_ _)); refine blk_far ?_ NB155_173.out _; (with_reducible repeat (first | refine blk_drewN ?_ _ | refine blk_drew ?_ | refine blk_alloc ?_ _)); refine blk_far ?_ NB155_173.out _; (with_reducible repeat (first | refine blk_drewN ?_ _ | refine blk_drew ?_ | refine blk_alloc ?_ _)); exact BK155.out) hb); have n3_ := Aside0.mk (blk_below (g := gb173) (o := .cells #[.int .i64 (wrap64 (rd l0 1)), .int .i64 t166, .bool ((Go.bits .and .i64 (t163 / 16384) 1) == 1), .bool ((Go.bits .and .i64 (t163 / 8192) 1) == 1), .int .i64 (wrap64 ((Go.bits .and .i64 t163 8191) * 8)), .int .i64 (wrap64 (rd l0 8)), .int .i64 (wrap64 (rd l0 9)), .int .i64 t170, .int .i64 t172, .slice none 0 0, .slice none 0 0] 51 (0, 0)) (by (with_reducible repeat (first | refine blk_drewN ?_ _ | refine blk_drew ?_ | refine blk_alloc ?_ _)); refine blk_put (cs := #[.int .i64 (wrap64 (rd l0 1)), .int .i64 t166, .bool ((Go.bits .and .i64 (t163 / 16384) 1) == 1), .bool ((Go.bits .and .i64 (t163 / 8192) 1) == 1), .int .i64 (wrap64 ((Go.bits .and .i64 t163 8191) * 8)), .int .i64 (wrap64 (rd l0 8)), .int .i64 (wrap64 (rd l0 9)), .int .i64 t170, .int .i64 t172, .slice none 0 0, .slice none 0 0]) ?_ 10 _ rfl; (with_reducible repeat (first | refine blk_drewN ?_ _ | refine blk_drew ?_ | refine blk_alloc ?_ _)); refine blk_put (cs := #[.int .i64 (wrap64 (rd l0 1)), .int .i64 t166, .bool ((Go.bits .and .i64 (t163 / 16384) 1) == 1), .bool ((Go.bits .and .i64 (t163 / 8192) 1) == 1), .int .i64 (wrap64 ((Go.bits .and .i64 t163 8191) * 8)), .int .i64 (wrap64 (rd l0 8)), .int .i64 (wrap64 (rd l0 9)), .int .i64 t170, .int .i64 t172, .slice none 0 0, .slice none 0 0]) ?_ 9 _ rfl; (with_reducible repeat (first | refine blk_drewN ?_ _ | refine blk_drew ?_ | refine blk_alloc ?_ _)); refine blk_put (cs := #[.int .i64 (wrap64 (rd l0 1)), .int .i64 t166, .bool ((Go.bits .and .i64 (t163 / 16384) 1) == 1), .bool ((Go.bits .and .i64 (t163 / 8192) 1) == 1), .int .i64 (wrap64 ((Go.bits .and .i64 t163 8191) * 8)), .int .i64 (wrap64 (rd l0 8)), .int .i64 (wrap64 (rd l0 9)), .int .i64 t170, .int .i64 0, .slice none 0 0, .slice none 0 0]) ?_ 8 _ rfl; (with_reducible repeat (first | refine blk_drewN ?_ _ | refine blk_drew ?_ | refine blk_alloc ?_ _)); refine blk_put (cs := #[.int .i64 (wrap64 (rd l0 1)), .int .i64 t166, .bool ((Go.bits .and .i64 (t163 / 16384) 1) == 1), .bool ((Go.bits .and .i64 (t163 / 8192) 1) == 1), .int .i64 (wrap64 ((Go.bits .and .i64 t163 8191) * 8)), .int .i64 (wrap64 (rd l0 8)), .int .i64 (wrap64 (rd l0 9)), .int .i64 0, .int .i64 0, .slice none 0 0, .slice none 0 0]) ?_ 7 _ rfl; (with_reducible repeat (first | refine blk_drewN ?_ _ | refine blk_drew ?_ | refine blk_alloc ?_ _)); refine blk_put (cs := #[.int .i64 (wrap64 (rd l0 1)), .int .i64 t166, .bool ((Go.bits .and .i64 (t163 / 16384) 1) == 1), .bool ((Go.bits .and .i64 (t163 / 8192) 1) == 1), .int .i64 (wrap64 ((Go.bits .and .i64 t163 8191) * 8)), .int .i64 (wrap64 (rd l0 8)), .int .i64 0, .int .i64 0, .int .i64 0, .slice none 0 0, .slice none 0 0]) ?_ 6 _ rfl; (with_reducible repeat (first | refine blk_drewN ?_ _ | refine blk_drew ?_ | refine blk_alloc ?_ _)); refine blk_put (cs := #[.int .i64 (wrap64 (rd l0 1)), .int .i64 t166, .bool ((Go.bits .and .i64 (t163 / 16384) 1) == 1), .bool ((Go.bits .and .i64 (t163 / 8192) 1) == 1), .int .i64 (wrap64 ((Go.bits .and .i64 t163 8191) * 8)), .int .i64 0, .int .i64 0, .int .i64 0, .int .i64 0, .slice none 0 0, .slice none 0 0]) ?_ 5 _ rfl; (with_reducible repeat (first | refine blk_drewN ?_ _ | refine blk_drew ?_ | refine blk_alloc ?_ _)); refine blk_put (cs := #[.int .i64 (wrap64 (rd l0 1)), .int .i64 t166, .bool ((Go.bits .and .i64 (t163 / 16384) 1) == 1), .bool ((Go.bits .and .i64 (t163 / 8192) 1) == 1), .int .i64 0, .int .i64 0, .int .i64 0, .int .i64 0, .int .i64 0, .slice none 0 0, .slice none 0 0]) ?_ 4 _ rfl; (with_reducible repeat (first | refine blk_drewN ?_ _ | refine blk_drew ?_ | refine blk_alloc ?_ _)); refine blk_put (cs := #[.int .i64 (wrap64 (rd l0 1)), .int .i64 t166, .bool ((Go.bits .and .i64 (t163 / 16384) 1) == 1), .bool false, .int .i64 0, .int .i64 0, .int .i64 0, .int .i64 0, .int .i64 0, .slice none 0 0, .slice none 0 0]) ?_ 3 _ rfl; (with_reducible repeat (first | refine blk_drewN ?_ _ | refine blk_drew ?_ | refine blk_alloc ?_ _)); refine blk_put (cs := #[.int .i64 (wrap64 (rd l0 1)), .int .i64 t166, .bool false, .bool false, .int .i64 0, .int .i64 0, .int .i64 0, .int .i64 0, .int .i64 0, .slice none 0 0, .slice none 0 0]) ?_ 2 _ rfl; (with_reducible repeat (first | refine blk_drewN ?_ _ | refine blk_drew ?_ | refine blk_alloc ?_ _)); refine blk_put (cs := #[.int .i64 (wrap64 (rd l0 1)), .int .i64 0, .bool false, .bool false, .int .i64 0, .int .i64 0, .int .i64 0, .int .i64 0, .int .i64 0, .slice none 0 0, .slice none 0 0]) ?_ 1 _ rfl; (with_reducible repeat (first | refine blk_drewN ?_ _ | refine blk_drew ?_ | refine blk_alloc ?_ _)); refine blk_put (cs := #[.int .i64 0, .int .i64 0, .bool false, .bool false, .int .i64 0, .int .i64 0, .int .i64 0, .int .i64 0, .int .i64 0, .slice none 0 0, .slice none 0 0]) ?_ 0 _ rfl; (with_reducible repeat (first | refine blk_drewN ?_ _ | refine blk_drew ?_ | refine blk_alloc ?_ _)); exact BK173.out) hb); have n4_ := Aside0.mk (below_step wB hb); clear BK154; clear BK155; clear BK173; clear HB; have HO177 := n0_; have BK154 := n1_; have BK155 := n2_; have BK173 := n3_; have HB := n4_; clear n0_ n1_ n2_ n3_ n4_; (try clear hb); (try clear hb2); (try clear hk); (try clear hi); (try clear ho0); obtain ⟨Ao3021, co3021, eo3021⟩ := Kd.R_slice HO177.out; subst eo3021; have hnb3022 := NB173_154.out; have hnc3022 := NB154_173.out; have hnb3023 := NB173_155.out; have hnc3023 := NB155_173.out; obtain ⟨⟨hcz3024_0, hcz3024_1, hcz3024_2, hcz3024_3, hcz3024_4, hcz3024_5, hcz3024_6, hcz3024_7, hcz3024_8, hcz3024_9, hcz3024_10⟩, hfz3024_0, hfz3024_1, hfz3024_2, hfz3024_3, hfz3024_4, hfz3024_5, hfz3024_6, hfz3024_7, hfz3024_8, hfz3024_9, hfz3024_10⟩ := cells11 BK173.out; obtain ⟨i03025, hi03025, _, hsz3025, _⟩ := info_parts info5; obtain ⟨A3025, hcut3025, hA3025, hC3025⟩ := print_mid_of (P := Try.prog) (Value.int .u8) 0 22 5 .i64 .i64 Try.underlying22 hi03025 hsz3025 (some ad156) c0 l0 (ji1005) t161 (of_decide_eq_true (by first | (with_reducible assumption) | assumption)) (by first | omega | exact of_decide_eq_true (by first | (with_reducible assumption) | assumption)) (of_decide_eq_true (by first | (with_reducible assumption) | assumption)) HC0.out; have HR178 := Aside0.mk (Kd.C_of_reads (h1 := fun _ => rfl) (hA3025 _ (Kd.reads_of_C HR0.out))); have HC178 := Aside0.mk hC3025; clear hA3025 hC3025 hi03025 hsz3025) | ((with_reducible refine gate_callee (f := 80) rfl ?_); refine goesL_ (some 98) rfl rfl Try.func80 (by kernel_rfl) rfl #[.slice A3025 ((l0.take (t161 : Int).toNat).drop ((ji1005) : Int).toNat).length (c0 - (ji1005).toNat)] rfl (by (try simp only [List.map_toArray, List.map_cons, List.map_nil]); first | done | (rw [show ((l0.take (t161 : Int).toNat).drop ((ji1005) : Int).toNat).length = (t161.toNat - (ji1005).toNat) from (by rw [List.length_drop, List.length_take]; have h_ : (t161 : Int) ≤ (l0.length : Int) := of_decide_eq_true (by first | (with_reducible assumption) | assumption); omega)] <;> rfl) | (simp only [hji1005]; rfl) | rfl | (simp only [List.length_drop, List.length_take]; rfl)) ?_; (with_reducible refine (impl_dup.calls _ _ ((l0.take (t161 : Int).toNat).drop ((ji1005) : Int).toNat) t179 _ ?side1 ?side2 A2026.out).mono ?_); (case side1 => exact Kd.C_below HR178.out wB); (case side2 => exact HC178.out); rintro e w3026 ⟨v180, rfl, ho0, hb⟩; refine ⟨_, rfl, ?_⟩; have n0_ := Aside0.mk (Kd.R_elder' (by (with_reducible repeat (first | apply Kd.R_alloc | apply Kd.R_drewN | apply Kd.R_drew)); exact (Kd.R_mono (Kd.R_far (p := ⟨gb173, 9, none⟩) (Kd.R_types HO177.out BK173.out (by decide)) (fun _ hk => hk.2) (.slice Ao3021 t175.length co3021)) (fun _ h_ => h_.1))) (Kd.R_base ho0) hb); have n1_ := Aside0.mk (Kd.R_lower (Kd.R_new' ho0 (Kd.R_lt (by (with_reducible repeat (first | apply Kd.R_alloc | apply Kd.R_drewN | apply Kd.R_drew)); exact (Kd.R_mono (Kd.R_far (p := ⟨gb173, 9, none⟩) (Kd.R_types HO177.out BK173.out (by decide)) (fun _ hk => hk.2) (.slice Ao3021 t175.length co3021)) (fun _ h_ => h_.1))))) (below_size wB)); have n2_ := Aside0.mk (blk_below (g := gb154) (o := .cells #[.int .i64 0, .int .i64 0, .bool false, .bool false, .int .i64 0, .int .i64 0, .int .i64 0, .int .i64 0, .int .i64 0, .slice none 0 0, .slice none 0 0] 51 (0, 0)) (by (with_reducible repeat (first | refine blk_drewN ?_ _ | refine blk_drew ?_ | refine blk_alloc ?_ _)); refine blk_far ?_ NB154_173.out _; (with_reducible repeat (first | refine blk_drewN ?_ _ | refine blk_drew ?_ | refine blk_alloc ?_ _)); exact BK154.out) hb); have n3_ := Aside0.mk (blk_below (g := gb155) (o := .cells #[.int .i64 0, .int .i64 0, .bool false, .bool false, .int .i64 0, .int .i64 0, .int .i64 0, .int .i64 0, .int .i64 0, .slice none 0 0, .slice none 0 0] 51 (0, 0)) (by (with_reducible repeat (first | refine blk_drewN ?_ _ | refine blk_drew ?_ | refine blk_alloc ?_ _)); refine blk_far ?_ NB155_173.out _; (with_reducible repeat (first | refine blk_drewN ?_ _ | refine blk_drew ?_ | refine blk_alloc ?_ _)); exact BK155.out) hb); have n4_ := Aside0.mk (blk_below (g := gb173) (o := .cells #[.int .i64 (wrap64 (rd l0 1)), .int .i64 t166, .bool ((Go.bits .and .i64 (t163 / 16384) 1) == 1), .bool ((Go.bits .and .i64 (t163 / 8192) 1) == 1), .int .i64 (wrap64 ((Go.bits .and .i64 t163 8191) * 8)), .int .i64 (wrap64 (rd l0 8)), .int .i64 (wrap64 (rd l0 9)), .int .i64 t170, .int .i64 t172, .slice Ao3021 t175.length co3021, .slice none 0 0] 51 (0, 0)) (by (with_reducible repeat (first | refine blk_drewN ?_ _ | refine blk_drew ?_ | refine blk_alloc ?_ _)); refine blk_put (cs := #[.int .i64 (wrap64 (rd l0 1)), .int .i64 t166, .bool ((Go.bits .and .i64 (t163 / 16384) 1) == 1), .bool ((Go.bits .and .i64 (t163 / 8192) 1) == 1), .int .i64 (wrap64 ((Go.bits .and .i64 t163 8191) * 8)), .int .i64 (wrap64 (rd l0 8)), .int .i64 (wrap64 (rd l0 9)), .int .i64 t170, .int .i64 t172, .slice none 0 0, .slice none 0 0]) ?_ 9 _ rfl; (with_reducible repeat (first | refine blk_drewN ?_ _ | refine blk_drew ?_ | refine blk_alloc ?_ _)); exact BK173.out) hb); have n5_ := Aside0.mk (below_step wB hb); clear HO177; clear BK154; clear BK155; clear BK173; clear HB; have HO177 := n0_; have HO181 := n1_; have BK154 := n2_; have BK155 := n3_; have BK173 := n4_; have HB := n5_; clear n0_ n1_ n2_ n3_ n4_ n5_; (try clear hb); (try clear hb2); (try clear hk); (try clear hi); (try clear ho0); obtain ⟨Ao3027, co3027, eo3027⟩ := Kd.R_slice HO181.out; subst eo3027; obtain ⟨⟨hcz3028_0, hcz3028_1, hcz3028_2, hcz3028_3, hcz3028_4, hcz3028_5, hcz3028_6, hcz3028_7, hcz3028_8, hcz3028_9, hcz3028_10⟩, hfz3028_0, hfz3028_1, hfz3028_2, hfz3028_3, hfz3028_4, hfz3028_5, hfz3028_6, hfz3028_7, hfz3028_8, hfz3028_9, hfz3028_10⟩ := cells11 BK173.out; have hnb3029 := NB154_155.out; have hnc3029 := NB155_154.out; obtain ⟨⟨hcz3030_0, hcz3030_1, hcz3030_2, hcz3030_3, hcz3030_4, hcz3030_5, hcz3030_6, hcz3030_7, hcz3030_8, hcz3030_9, hcz3030_10⟩, hfz3030_0, hfz3030_1, hfz3030_2, hfz3030_3, hfz3030_4, hfz3030_5, hfz3030_6, hfz3030_7, hfz3030_8, hfz3030_9, hfz3030_10⟩ := cells11 BK154.out) | ((with_reducible refine gate_store (t := 51) (p := 2) rfl ?_); (try (rw [drewN_self w3026]; generalize hq_ : World.drewN w3026 _ = w3026; have n0_ := Aside0.mk (Kd.R_at hq_ HO177.out); have n1_ := Aside0.mk (Kd.R_at hq_ HO181.out); have n2_ := Aside0.mk (blk_at hq_ BK154.out); have n3_ := Aside0.mk (blk_at hq_ BK155.out); have n4_ := Aside0.mk (blk_at hq_ BK173.out); have n5_ := Aside0.mk (below_at hq_ HB.out); clear hq_ HO177 HO181 BK154 BK155 BK173 HB; have HO177 := n0_; have HO181 := n1_; have BK154 := n2_; have BK155 := n3_; have BK173 := n4_; have HB := n5_; clear n0_ n1_ n2_ n3_ n4_ n5_; (try (obtain ⟨⟨hcyBK154_0, hcyBK154_1, hcyBK154_2, hcyBK154_3, hcyBK154_4, hcyBK154_5, hcyBK154_6, hcyBK154_7, hcyBK154_8, hcyBK154_9, hcyBK154_10⟩, hfyBK154_0, hfyBK154_1, hfyBK154_2, hfyBK154_3, hfyBK154_4, hfyBK154_5, hfyBK154_6, hfyBK154_7, hfyBK154_8, hfyBK154_9, hfyBK154_10⟩ := cells11 BK154.out)); (try (obtain ⟨⟨hcyBK155_0, hcyBK155_1, hcyBK155_2, hcyBK155_3, hcyBK155_4, hcyBK155_5, hcyBK155_6, hcyBK155_7, hcyBK155_8, hcyBK155_9, hcyBK155_10⟩, hfyBK155_0, hfyBK155_1, hfyBK155_2, hfyBK155_3, hfyBK155_4, hfyBK155_5, hfyBK155_6, hfyBK155_7, hfyBK155_8, hfyBK155_9, hfyBK155_10⟩ := cells11 BK155.out)); (try (obtain ⟨⟨hcyBK173_0, hcyBK173_1, hcyBK173_2, hcyBK173_3, hcyBK173_4, hcyBK173_5, hcyBK173_6, hcyBK173_7, hcyBK173_8, hcyBK173_9, hcyBK173_10⟩, hfyBK173_0, hfyBK173_1, hfyBK173_2, hfyBK173_3, hfyBK173_4, hfyBK173_5, hfyBK173_6, hfyBK173_7, hfyBK173_8, hfyBK173_9, hfyBK173_10⟩ := cells11 BK173.out)))); refine store_event (t := 51) (p := 2) (v := ?_) (w1 := ((((((((((((w3026.setCell ⟨gb173, 10, none⟩ (.slice Ao3027 t179.length co3027)).setCell ⟨gb154, 0, none⟩ (.int .i64 (wrap64 (rd l0 1)))).setCell ⟨gb154, 1, none⟩ (.int .i64 t166)).setCell ⟨gb154, 2, none⟩ (.bool ((Go.bits .and .i64 (t163 / 16384) 1) == 1))).setCell ⟨gb154, 3, none⟩ (.bool ((Go.bits .and .i64 (t163 / 8192) 1) == 1))).setCell ⟨gb154, 4, none⟩ (.int .i64 (wrap64 ((Go.bits .and .i64 t163 8191) * 8)))).setCell ⟨gb154, 5, none⟩ (.int .i64 (wrap64 (rd l0 8)))).setCell ⟨gb154, 6, none⟩ (.int .i64 (wrap64 (rd l0 9)))).setCell ⟨gb154, 7, none⟩ (.int .i64 t170)).setCell ⟨gb154, 8, none⟩ (.int .i64 t172)).setCell ⟨gb154, 9, none⟩ (.slice Ao3021 t175.length co3021)).setCell ⟨gb154, 10, none⟩ (.slice Ao3027 t179.length co3027))) ?hg ?ho ?hn ?hr ?_; (case ho => rfl); (case hg => rfl); (case hn => rfl); (case hr => first | (go_simp; done) | (go_simp; rfl)); intro w3031 hw; have n0_ : Aside0 (Kd.R (Kd.int .u8) 5 w3031 w.heap.size (fun k_ => some k_ ≠ (.slice Ao3027 t179.length co3027 : Value).ownBlock) (.slice Ao3021 t175.length co3021) t175) := ⟨(by rw [hw]; exact (by (with_reducible repeat (first | apply Kd.R_alloc | apply Kd.R_drewN | apply Kd.R_drew)); exact Kd.R_mono (Kd.R_far (p := ⟨gb154, 10, none⟩) (Kd.R_far (p := ⟨gb154, 9, none⟩) (Kd.R_far (p := ⟨gb154, 8, none⟩) (Kd.R_far (p := ⟨gb154, 7, none⟩) (Kd.R_far (p := ⟨gb154, 6, none⟩) (Kd.R_far (p := ⟨gb154, 5, none⟩) (Kd.R_far (p := ⟨gb154, 4, none⟩) (Kd.R_far (p := ⟨gb154, 3, none⟩) (Kd.R_far (p := ⟨gb154, 2, none⟩) (Kd.R_far (p := ⟨gb154, 1, none⟩) (Kd.R_far (p := ⟨gb154, 0, none⟩) (Kd.R_far (p := ⟨gb173, 10, none⟩) (Kd.R_types (Kd.R_types HO177.out BK173.out (by decide)) BK154.out (by decide)) (fun _ hk => hk.1.2) (.slice Ao3027 t179.length co3027)) (fun _ hk => hk.2) (.int .i64 (wrap64 (rd l0 1)))) (fun _ hk => hk.2) (.int .i64 t166)) (fun _ hk => hk.2) (.bool ((Go.bits .and .i64 (t163 / 16384) 1) == 1))) (fun _ hk => hk.2) (.bool ((Go.bits .and .i64 (t163 / 8192) 1) == 1))) (fun _ hk => hk.2) (.int .i64 (wrap64 ((Go.bits .and .i64 t163 8191) * 8)))) (fun _ hk => hk.2) (.int .i64 (wrap64 (rd l0 8)))) (fun _ hk => hk.2) (.int .i64 (wrap64 (rd l0 9)))) (fun _ hk => hk.2) (.int .i64 t170)) (fun _ hk => hk.2) (.int .i64 t172)) (fun _ hk => hk.2) (.slice Ao3021 t175.length co3021)) (fun _ hk => hk.2) (.slice Ao3027 t179.length co3027)) (fun _ hk => hk.1.1.2)))⟩; have n1_ : Aside0 (Kd.R (Kd.int .u8) 5 w3031 w.heap.size (fun k_ => some k_ ≠ (.slice Ao3021 t175.length co3021 : Value).ownBlock) (.slice Ao3027 t179.length co3027) t179) := ⟨(by rw [hw]; exact (by (with_reducible repeat (first | apply Kd.R_alloc | apply Kd.R_drewN | apply Kd.R_drew)); exact Kd.R_mono (Kd.R_far (p := ⟨gb154, 10, none⟩) (Kd.R_far (p := ⟨gb154, 9, none⟩) (Kd.R_far (p := ⟨gb154, 8, none⟩) (Kd.R_far (p := ⟨gb154, 7, none⟩) (Kd.R_far (p := ⟨gb154, 6, none⟩) (Kd.R_far (p := ⟨gb154, 5, none⟩) (Kd.R_far (p := ⟨gb154, 4, none⟩) (Kd.R_far (p := ⟨gb154, 3, none⟩) (Kd.R_far (p := ⟨gb154, 2, none⟩) (Kd.R_far (p := ⟨gb154, 1, none⟩) (Kd.R_far (p := ⟨gb154, 0, none⟩) (Kd.R_far (p := ⟨gb173, 10, none⟩) (Kd.R_types (Kd.R_types HO181.out BK173.out (by decide)) BK154.out (by decide)) (fun _ hk => hk.1.2) (.slice Ao3027 t179.length co3027)) (fun _ hk => hk.2) (.int .i64 (wrap64 (rd l0 1)))) (fun _ hk => hk.2) (.int .i64 t166)) (fun _ hk => hk.2) (.bool ((Go.bits .and .i64 (t163 / 16384) 1) == 1))) (fun _ hk => hk.2) (.bool ((Go.bits .and .i64 (t163 / 8192) 1) == 1))) (fun _ hk => hk.2) (.int .i64 (wrap64 ((Go.bits .and .i64 t163 8191) * 8)))) (fun _ hk => hk.2) (.int .i64 (wrap64 (rd l0 8)))) (fun _ hk => hk.2) (.int .i64 (wrap64 (rd l0 9)))) (fun _ hk => hk.2) (.int .i64 t170)) (fun _ hk => hk.2) (.int .i64 t172)) (fun _ hk => hk.2) (.slice Ao3021 t175.length co3021)) (fun _ hk => hk.2) (.slice Ao3027 t179.length co3027)) (fun _ hk => hk.1.1.2)))⟩; have n2_ : Aside0 (w3031.heap[gb154]? = some (.cells #[.int .i64 (wrap64 (rd l0 1)), .int .i64 t166, .bool ((Go.bits .and .i64 (t163 / 16384) 1) == 1), .bool ((Go.bits .and .i64 (t163 / 8192) 1) == 1), .int .i64 (wrap64 ((Go.bits .and .i64 t163 8191) * 8)), .int .i64 (wrap64 (rd l0 8)), .int .i64 (wrap64 (rd l0 9)), .int .i64 t170, .int .i64 t172, .slice Ao3021 t175.length co3021, .slice Ao3027 t179.length co3027] 51 (0, 0))) := ⟨(by rw [hw]; exact (by (with_reducible repeat (first | refine blk_drewN ?_ _ | refine blk_drew ?_ | refine blk_alloc ?_ _)); refine blk_put (cs := #[.int .i64 (wrap64 (rd l0 1)), .int .i64 t166, .bool ((Go.bits .and .i64 (t163 / 16384) 1) == 1), .bool ((Go.bits .and .i64 (t163 / 8192) 1) == 1), .int .i64 (wrap64 ((Go.bits .and .i64 t163 8191) * 8)), .int .i64 (wrap64 (rd l0 8)), .int .i64 (wrap64 (rd l0 9)), .int .i64 t170, .int .i64 t172, .slice Ao3021 t175.length co3021, .slice none 0 0]) ?_ 10 _ rfl; (with_reducible repeat (first | refine blk_drewN ?_ _ | refine blk_drew ?_ | refine blk_alloc ?_ _)); refine blk_put (cs := #[.int .i64 (wrap64 (rd l0 1)), .int .i64 t166, .bool ((Go.bits .and .i64 (t163 / 16384) 1) == 1), .bool ((Go.bits .and .i64 (t163 / 8192) 1) == 1), .int .i64 (wrap64 ((Go.bits .and .i64 t163 8191) * 8)), .int .i64 (wrap64 (rd l0 8)), .int .i64 (wrap64 (rd l0 9)), .int .i64 t170, .int .i64 t172, .slice none 0 0, .slice none 0 0]) ?_ 9 _ rfl; (with_reducible repeat (first | refine blk_drewN ?_ _ | refine blk_drew ?_ | refine blk_alloc ?_ _)); refine blk_put (cs := #[.int .i64 (wrap64 (rd l0 1)), .int .i64 t166, .bool ((Go.bits .and .i64 (t163 / 16384) 1) == 1), .bool ((Go.bits .and .i64 (t163 / 8192) 1) == 1), .int .i64 (wrap64 ((Go.bits .and .i64 t163 8191) * 8)), .int .i64 (wrap64 (rd l0 8)), .int .i64 (wrap64 (rd l0 9)), .int .i64 t170, .int .i64 0, .slice none 0 0, .slice none 0 0]) ?_ 8 _ rfl; (with_reducible repeat (first | refine blk_drewN ?_ _ | refine blk_drew ?_ | refine blk_alloc ?_ _)); refine blk_put (cs := #[.int .i64 (wrap64 (rd l0 1)), .int .i64 t166, .bool ((Go.bits .and .i64 (t163 / 16384) 1) == 1), .bool ((Go.bits .and .i64 (t163 / 8192) 1) == 1), .int .i64 (wrap64 ((Go.bits .and .i64 t163 8191) * 8)), .int .i64 (wrap64 (rd l0 8)), .int .i64 (wrap64 (rd l0 9)), .int .i64 0, .int .i64 0, .slice none 0 0, .slice none 0 0]) ?_ 7 _ rfl; (with_reducible repeat (first | refine blk_drewN ?_ _ | refine blk_drew ?_ | refine blk_alloc ?_ _)); refine blk_put (cs := #[.int .i64 (wrap64 (rd l0 1)), .int .i64 t166, .bool ((Go.bits .and .i64 (t163 / 16384) 1) == 1), .bool ((Go.bits .and .i64 (t163 / 8192) 1) == 1), .int .i64 (wrap64 ((Go.bits .and .i64 t163 8191) * 8)), .int .i64 (wrap64 (rd l0 8)), .int .i64 0, .int .i64 0, .int .i64 0, .slice none 0 0, .slice none 0 0]) ?_ 6 _ rfl; (with_reducible repeat (first | refine blk_drewN ?_ _ | refine blk_drew ?_ | refine blk_alloc ?_ _)); refine blk_put (cs := #[.int .i64 (wrap64 (rd l0 1)), .int .i64 t166, .bool ((Go.bits .and .i64 (t163 / 16384) 1) == 1), .bool ((Go.bits .and .i64 (t163 / 8192) 1) == 1), .int .i64 (wrap64 ((Go.bits .and .i64 t163 8191) * 8)), .int .i64 0, .int .i64 0, .int .i64 0, .int .i64 0, .slice none 0 0, .slice none 0 0]) ?_ 5 _ rfl; (with_reducible repeat (first | refine blk_drewN ?_ _ | refine blk_drew ?_ | refine blk_alloc ?_ _)); refine blk_put (cs := #[.int .i64 (wrap64 (rd l0 1)), .int .i64 t166, .bool ((Go.bits .and .i64 (t163 / 16384) 1) == 1), .bool ((Go.bits .and .i64 (t163 / 8192) 1) == 1), .int .i64 0, .int .i64 0, .int .i64 0, .int .i64 0, .int .i64 0, .slice none 0 0, .slice none 0 0]) ?_ 4 _ rfl; (with_reducible repeat (first | refine blk_drewN ?_ _ | refine blk_drew ?_ | refine blk_alloc ?_ _)); refine blk_put (cs := #[.int .i64 (wrap64 (rd l0 1)), .int .i64 t166, .bool ((Go.bits .and .i64 (t163 / 16384) 1) == 1), .bool false, .int .i64 0, .int .i64 0, .int .i64 0, .int .i64 0, .int .i64 0, .slice none 0 0, .slice none 0 0]) ?_ 3 _ rfl; (with_reducible repeat (first | refine blk_drewN ?_ _ | refine blk_drew ?_ | refine blk_alloc ?_ _)); refine blk_put (cs := #[.int .i64 (wrap64 (rd l0 1)), .int .i64 t166, .bool false, .bool false, .int .i64 0, .int .i64 0, .int .i64 0, .int .i64 0, .int .i64 0, .slice none 0 0, .slice none 0 0]) ?_ 2 _ rfl; (with_reducible repeat (first | refine blk_drewN ?_ _ | refine blk_drew ?_ | refine blk_alloc ?_ _)); refine blk_put (cs := #[.int .i64 (wrap64 (rd l0 1)), .int .i64 0, .bool false, .bool false, .int .i64 0, .int .i64 0, .int .i64 0, .int .i64 0, .int .i64 0, .slice none 0 0, .slice none 0 0]) ?_ 1 _ rfl; (with_reducible repeat (first | refine blk_drewN ?_ _ | refine blk_drew ?_ | refine blk_alloc ?_ _)); refine blk_put (cs := #[.int .i64 0, .int .i64 0, .bool false, .bool false, .int .i64 0, .int .i64 0, .int .i64 0, .int .i64 0, .int .i64 0, .slice none 0 0, .slice none 0 0]) ?_ 0 _ rfl; (with_reducible repeat (first | refine blk_drewN ?_ _ | refine blk_drew ?_ | refine blk_alloc ?_ _)); refine blk_far ?_ NB154_173.out _; (with_reducible repeat (first | refine blk_drewN ?_ _ | refine blk_drew ?_ | refine blk_alloc ?_ _)); exact BK154.out))⟩; have n3_ : Aside0 (w3031.heap[gb155]? = some (.cells #[.int .i64 0, .int .i64 0, .bool false, .bool false, .int .i64 0, .int .i64 0, .int .i64 0, .int .i64 0, .int .i64 0, .slice none 0 0, .slice none 0 0] 51 (0, 0))) := ⟨(by rw [hw]; exact (by (with_reducible repeat (first | refine blk_drewN ?_ _ | refine blk_drew ?_ | refine blk_alloc ?_ _)); refine blk_far ?_ NB155_154.out _; (with_reducible repeat (first | refine blk_drewN ?_ _ | refine blk_drew ?_ | refine blk_alloc ?_ _)); refine blk_far ?_ NB155_154.out _; (with_reducible repeat (first | refine blk_drewN ?_ _ | refine blk_drew ?_ | refine blk_alloc ?_ _)); refine blk_far ?_ NB155_154.out _; (with_reducible repeat (first | refine blk_drewN ?_ _ | refine blk_drew ?_ | refine blk_alloc ?_ _)); refine blk_far ?_ NB155_154.out _; (with_reducible repeat (first | refine blk_drewN ?_ _ | refine blk_drew ?_ | refine blk_alloc ?_ _)); refine blk_far ?_ NB155_154.out _; (with_reducible repeat (first | refine blk_drewN ?_ _ | refine blk_drew ?_ | refine blk_alloc ?_ _)); refine blk_far ?_ NB155_154.out _; (with_reducible repeat (first | refine blk_drewN ?_ _ | refine blk_drew ?_ | refine blk_alloc ?_ _)); refine blk_far ?_ NB155_154.out _; (with_reducible repeat (first | refine blk_drewN ?_ _ | refine blk_drew ?_ | refine blk_alloc ?_ _)); refine blk_far ?_ NB155_154.out _; (with_reducible repeat (first | refine blk_drewN ?_ _ | refine blk_drew ?_ | refine blk_alloc ?_ _)); refine blk_far ?_ NB155_154.out _; (with_reducible repeat (first | refine blk_drewN ?_ _ | refine blk_drew ?_ | refine blk_alloc ?_ _)); refine blk_far ?_ NB155_154.out _; (with_reducible repeat (first | refine blk_drewN ?_ _ | refine blk_drew ?_ | refine blk_alloc ?_ _)); refine blk_far ?_ NB155_154.out _; (with_reducible repeat (first | refine blk_drewN ?_ _ | refine blk_drew ?_ | refine blk_alloc ?_ _)); refine blk_far ?_ NB155_173.out _; (with_reducible repeat (first | refine blk_drewN ?_ _ | refine blk_drew ?_ | refine blk_alloc ?_ _)); exact BK155.out))⟩; have n4_ : Aside0 (w3031.heap[gb173]? = some (.cells #[.int .i64 (wrap64 (rd l0 1)), .int .i64 t166, .bool ((Go.bits .and .i64 (t163 / 16384) 1) == 1), .bool ((Go.bits .and .i64 (t163 / 8192) 1) == 1), .int .i64 (wrap64 ((Go.bits .and .i64 t163 8191) * 8)), .int .i64 (wrap64 (rd l0 8)), .int .i64 (wrap64 (rd l0 9)), .int .i64 t170, .int .i64 t172, .slice Ao3021 t175.length co3021, .slice Ao3027 t179.length co3027] 51 (0, 0))) := ⟨(by rw [hw]; exact (by (with_reducible repeat (first | refine blk_drewN ?_ _ | refine blk_drew ?_ | refine blk_alloc ?_ _)); refine blk_far ?_ NB173_154.out _; (with_reducible repeat (first | refine blk_drewN ?_ _ | refine blk_drew ?_ | refine blk_alloc ?_ _)); refine blk_far ?_ NB173_154.out _; (with_reducible repeat (first | refine blk_drewN ?_ _ | refine blk_drew ?_ | refine blk_alloc ?_ _)); refine blk_far ?_ NB173_154.out _; (with_reducible repeat (first | refine blk_drewN ?_ _ | refine blk_drew ?_ | refine blk_alloc ?_ _)); refine blk_far ?_ NB173_154.out _; (with_reducible repeat (first | refine blk_drewN ?_ _ | refine blk_drew ?_ | refine blk_alloc ?_ _)); refine blk_far ?_ NB173_154.out _; (with_reducible repeat (first | refine blk_drewN ?_ _ | refine blk_drew ?_ | refine blk_alloc ?_ _)); refine blk_far ?_ NB173_154.out _; (with_reducible repeat (first | refine blk_drewN ?_ _ | refine blk_drew ?_ | refine blk_alloc ?_ _)); refine blk_far ?_ NB173_154.out _; (with_reducible repeat (first | refine blk_drewN ?_ _ | refine blk_drew ?_ | refine blk_alloc ?_ _)); refine blk_far ?_ NB173_154.out _; (with_reducible repeat (first | refine blk_drewN ?_ _ | refine blk_drew ?_ | refine blk_alloc ?_ _)); refine blk_far ?_ NB173_154.out _; (with_reducible repeat (first | refine blk_drewN ?_ _ | refine blk_drew ?_ | refine blk_alloc ?_ _)); refine blk_far ?_ NB173_154.out _; (with_reducible repeat (first | refine blk_drewN ?_ _ | refine blk_drew ?_ | refine blk_alloc ?_ _)); refine blk_far ?_ NB173_154.out _; (with_reducible repeat (first | refine blk_drewN ?_ _ | refine blk_drew ?_ | refine blk_alloc ?_ _)); refine blk_put (cs := #[.int .i64 (wrap64 (rd l0 1)), .int .i64 t166, .bool ((Go.bits .and .i64 (t163 / 16384) 1) == 1), .bool ((Go.bits .and .i64 (t163 / 8192) 1) == 1), .int .i64 (wrap64 ((Go.bits .and .i64 t163 8191) * 8)), .int .i64 (wrap64 (rd l0 8)), .int .i64 (wrap64 (rd l0 9)), .int .i64 t170, .int .i64 t172, .slice Ao3021 t175.length co3021, .slice none 0 0]) ?_ 10 _ rfl; (with_reducible repeat (first | refine blk_drewN ?_ _ | refine blk_drew ?_ | refine blk_alloc ?_ _)); exact BK173.out))⟩; have n5_ : Aside0 (Below w.heap.size w w3031) := ⟨(by rw [hw]; exact wB)⟩; clear hw; clear HO177; clear HO181; clear BK154; clear BK155; clear BK173; clear HB; have HO177 := n0_; have HO181 := n1_; have BK154 := n2_; have BK155 := n3_; have BK173 := n4_; have HB := n5_; clear n0_ n1_ n2_ n3_ n4_ n5_))
 refine bodyPost_ret (results_ct rfl _ _ gb154 51 #[.int .i64 (wrap64 (rd l0 1)), .int .i64 t166, .bool ((Go.bits .and .i64 (t163 / 16384) 1) == 1), .bool ((Go.bits .and .i64 (t163 / 8192) 1) == 1), .int .i64 (wrap64 ((Go.bits .and .i64 t163 8191) * 8)), .int .i64 (wrap64 (rd l0 8)), .int .i64 (wrap64 (rd l0 9)), .int .i64 t170, .int .i64 t172, .slice Ao3021 t175.length co3021, .slice Ao3027 t179.length co3027] (0, 0) _ rfl (Bh BK154) Try.underlying51 rfl (by kernel_rfl)) rfl ?_
 exact ⟨_, _, by first | rfl | (simp [errW_none, errW_some] <;> rfl) | (simp only [← hji1005]; first | rfl | (simp [errW_none, errW_some] <;> rfl)) | (simp [*, errW_none, errW_some] <;> rfl), by (with_reducible repeat (first | apply Kd.R_alloc | apply Kd.R_drewN | apply Kd.R_drew)); exact HO177.out, by (with_reducible repeat (first | apply Kd.R_alloc | apply Kd.R_drewN | apply Kd.R_drew)); exact HO181.out, wB⟩
 }
 }
 )
 }
 {
 go_wp2_with (first | ((with_reducible refine gate_callee (f := 71) rfl ?_); refine goesL_ (some 37) rfl rfl Try.func71 (by kernel_rfl) rfl #[.slice (some ad156) (l0.take ((ji1005) : Int).toNat).length c0] rfl (by (try simp only [List.map_toArray, List.map_cons, List.map_nil]); first | done | (rw [show (l0.take ((ji1005) : Int).toNat).length = (ji1005).toNat from (by rw [List.length_take]; have h_ : ((ji1005) : Int) ≤ (l0.length : Int) := of_decide_eq_true (by first | (with_reducible assumption) | assumption); omega)] <;> rfl) | (simp only [hji1005]; rfl) | rfl | (simp only [List.length_drop, List.length_take]; rfl)) ?_; (with_reducible refine (impl_Checksum.calls kj4 _ _ (l0.take ((ji1005) : Int).toNat) t159 _ ?side1 ?side2 A1008.out).mono ?_); (case side1 => exact Kd.C_below HR158.out wB); (case side2 => exact HC158.out); rintro e w' ⟨rfl, ⟨nd, rfl⟩⟩; refine ⟨_, rfl, ?_⟩; (try (rw [drewN_self wc]; generalize hq_ : World.drewN wc _ = wc; have n0_ := Aside0.mk (blk_at hq_ BK154.out); have n1_ := Aside0.mk (blk_at hq_ BK155.out); have n2_ := Aside0.mk (below_at hq_ HB.out); clear hq_ BK154 BK155 HB; have BK154 := n0_; have BK155 := n1_; have HB := n2_; clear n0_ n1_ n2_; (try (obtain ⟨⟨hcyBK154_0, hcyBK154_1, hcyBK154_2, hcyBK154_3, hcyBK154_4, hcyBK154_5, hcyBK154_6, hcyBK154_7, hcyBK154_8, hcyBK154_9, hcyBK154_10⟩, hfyBK154_0, hfyBK154_1, hfyBK154_2, hfyBK154_3, hfyBK154_4, hfyBK154_5, hfyBK154_6, hfyBK154_7, hfyBK154_8, hfyBK154_9, hfyBK154_10⟩ := cells11 BK154.out)); (try (obtain ⟨⟨hcyBK155_0, hcyBK155_1, hcyBK155_2, hcyBK155_3, hcyBK155_4, hcyBK155_5, hcyBK155_6, hcyBK155_7, hcyBK155_8, hcyBK155_9, hcyBK155_10⟩, hfyBK155_0, hfyBK155_1, hfyBK155_2, hfyBK155_3, hfyBK155_4, hfyBK155_5, hfyBK155_6, hfyBK155_7, hfyBK155_8, hfyBK155_9, hfyBK155_10⟩ := cells11 BK155.out)))); have hnb2002 := NB155_154.out; have hnc2002 := NB154_155.out; obtain ⟨⟨hcz2003_0, hcz2003_1, hcz2003_2, hcz2003_3, hcz2003_4, hcz2003_5, hcz2003_6, hcz2003_7, hcz2003_8, hcz2003_9, hcz2003_10⟩, hfz2003_0, hfz2003_1, hfz2003_2, hfz2003_3, hfz2003_4, hfz2003_5, hfz2003_6, hfz2003_7, hfz2003_8, hfz2003_9, hfz2003_10⟩ := cells11 BK155.out; obtain ⟨⟨hcz2004_0, hcz2004_1, hcz2004_2, hcz2004_3, hcz2004_4, hcz2004_5, hcz2004_6, hcz2004_7, hcz2004_8, hcz2004_9, hcz2004_10⟩, hfz2004_0, hfz2004_1, hfz2004_2, hfz2004_3, hfz2004_4, hfz2004_5, hfz2004_6, hfz2004_7, hfz2004_8, hfz2004_9, hfz2004_10⟩ := cells11 BK154.out) | ((with_reducible refine gate_store (t := 51) (p := 2) rfl ?_); (try (rw [drewN_self wc]; generalize hq_ : World.drewN wc _ = wc; have n0_ := Aside0.mk (blk_at hq_ BK154.out); have n1_ := Aside0.mk (blk_at hq_ BK155.out); have n2_ := Aside0.mk (below_at hq_ HB.out); clear hq_ BK154 BK155 HB; have BK154 := n0_; have BK155 := n1_; have HB := n2_; clear n0_ n1_ n2_; (try (obtain ⟨⟨hcyBK154_0, hcyBK154_1, hcyBK154_2, hcyBK154_3, hcyBK154_4, hcyBK154_5, hcyBK154_6, hcyBK154_7, hcyBK154_8, hcyBK154_9, hcyBK154_10⟩, hfyBK154_0, hfyBK154_1, hfyBK154_2, hfyBK154_3, hfyBK154_4, hfyBK154_5, hfyBK154_6, hfyBK154_7, hfyBK154_8, hfyBK154_9, hfyBK154_10⟩ := cells11 BK154.out)); (try (obtain ⟨⟨hcyBK155_0, hcyBK155_1, hcyBK155_2, hcyBK155_3, hcyBK155_4, hcyBK155_5, hcyBK155_6, hcyBK155_7, hcyBK155_8, hcyBK155_9, hcyBK155_10⟩, hfyBK155_0, hfyBK155_1, hfyBK155_2, hfyBK155_3, hfyBK155_4, hfyBK155_5, hfyBK155_6, hfyBK155_7, hfyBK155_8, hfyBK155_9, hfyBK155_10⟩ := cells11 BK155.out)))); refine store_event (t := 51) (p := 2) (v := ?_) (w1 := (((((((((((wc.setCell ⟨gb154, 0, none⟩ (.int .i64 0)).setCell ⟨gb154, 1, none⟩ (.int .i64 0)).setCell ⟨gb154, 2, none⟩ (.bool false)).setCell ⟨gb154, 3, none⟩ (.bool false)).setCell ⟨gb154, 4, none⟩ (.int .i64 0)).setCell ⟨gb154, 5, none⟩ (.int .i64 0)).setCell ⟨gb154, 6, none⟩ (.int .i64 0)).setCell ⟨gb154, 7, none⟩ (.int .i64 0)).setCell ⟨gb154, 8, none⟩ (.int .i64 0)).setCell ⟨gb154, 9, none⟩ (.slice none 0 0)).setCell ⟨gb154, 10, none⟩ (.slice none 0 0))) ?hg ?ho ?hn ?hr ?_; (case ho => rfl); (case hg => rfl); (case hn => rfl); (case hr => first | (go_simp; done) | (go_simp; rfl)); intro w2005 hw; have n0_ : Aside0 (w2005.heap[gb154]? = some (.cells #[.int .i64 0, .int .i64 0, .bool false, .bool false, .int .i64 0, .int .i64 0, .int .i64 0, .int .i64 0, .int .i64 0, .slice none 0 0, .slice none 0 0] 51 (0, 0))) := ⟨(by rw [hw]; exact (by (with_reducible repeat (first | refine blk_drewN ?_ _ | refine blk_drew ?_ | refine blk_alloc ?_ _)); refine blk_put (cs := #[.int .i64 0, .int .i64 0, .bool false, .bool false, .int .i64 0, .int .i64 0, .int .i64 0, .int .i64 0, .int .i64 0, .slice none 0 0, .slice none 0 0]) ?_ 10 _ rfl; (with_reducible repeat (first | refine blk_drewN ?_ _ | refine blk_drew ?_ | refine blk_alloc ?_ _)); refine blk_put (cs := #[.int .i64 0, .int .i64 0, .bool false, .bool false, .int .i64 0, .int .i64 0, .int .i64 0, .int .i64 0, .int .i64 0, .slice none 0 0, .slice none 0 0]) ?_ 9 _ rfl; (with_reducible repeat (first | refine blk_drewN ?_ _ | refine blk_drew ?_ | refine blk_alloc ?_ _)); refine blk_put (cs := #[.int .i64 0, .int .i64 0, .bool false, .bool false, .int .i64 0, .int .i64 0, .int .i64 0, .int .i64 0, .int .i64 0, .slice none 0 0, .slice none 0 0]) ?_ 8 _ rfl; (with_reducible repeat (first | refine blk_drewN ?_ _ | refine blk_drew ?_ | refine blk_alloc ?_ _)); refine blk_put (cs := #[.int .i64 0, .int .i64 0, .bool false, .bool false, .int .i64 0, .int .i64 0, .int .i64 0, .int .i64 0, .int .i64 0, .slice none 0 0, .slice none 0 0]) ?_ 7 _ rfl; (with_reducible repeat (first | refine blk_drewN ?_ _ | refine blk_drew ?_ | refine blk_alloc ?_ _)); refine blk_put (cs := #[.int .i64 0, .int .i64 0, .bool false, .bool false, .int .i64 0, .int .i64 0, .int .i64 0, .int .i64 0, .int .i64 0, .slice none 0 0, .slice none 0 0]) ?_ 6 _ rfl; (with_reducible repeat (first | refine blk_drewN ?_ _ | refine blk_drew ?_ | refine blk_alloc ?_ _)); refine blk_put (cs := #[.int .i64 0, .int .i64 0, .bool false, .bool false, .int .i64 0, .int .i64 0, .int .i64 0, .int .i64 0, .int .i64 0, .slice none 0 0, .slice none 0 0]) ?_ 5 _ rfl; (with_reducible repeat (first | refine blk_drewN ?_ _ | refine blk_drew ?_ | refine blk_alloc ?_ _)); refine blk_put (cs := #[.int .i64 0, .int .i64 0, .bool false, .bool false, .int .i64 0, .int .i64 0, .int .i64 0, .int .i64 0, .int .i64 0, .slice none 0 0, .slice none 0 0]) ?_ 4 _ rfl; (with_reducible repeat (first | refine blk_drewN ?_ _ | refine blk_drew ?_ | refine blk_alloc ?_ _)); refine blk_put (cs := #[.int .i64 0, .int .i64 0, .bool false, .bool false, .int .i64 0, .int .i64 0, .int .i64 0, .int .i64 0, .int .i64 0, .slice none 0 0, .slice none 0 0]) ?_ 3 _ rfl; (with_reducible repeat (first | refine blk_drewN ?_ _ | refine blk_drew ?_ | refine blk_alloc ?_ _)); refine blk_put (cs := #[.int .i64 0, .int .i64 0, .bool false, .bool false, .int .i64 0, .int .i64 0, .int .i64 0, .int .i64 0, .int .i64 0, .slice none 0 0, .slice none 0 0]) ?_ 2 _ rfl; (with_reducible repeat (first | refine blk_drewN ?_ _ | refine blk_drew ?_ | refine blk_alloc ?_ _)); refine blk_put (cs := #[.int .i64 0, .int .i64 0, .bool false, .bool false, .int .i64 0, .int .i64 0, .int .i64 0, .int .i64 0, .int .i64 0, .slice none 0 0, .slice none 0 0]) ?_ 1 _ rfl; (with_reducible repeat (first | refine blk_drewN ?_ _ | refine blk_drew ?_ | refine blk_alloc ?_ _)); refine blk_put (cs := #[.int .i64 0, .int .i64 0, .bool false, .bool false, .int .i64 0, .int .i64 0, .int .i64 0, .int .i64 0, .int .i64 0, .slice none 0 0, .slice none 0 0]) ?_ 0 _ rfl; (with_reducible repeat (first | refine blk_drewN ?_ _ | refine blk_drew ?_ | refine blk_alloc ?_ _)); exact BK154.out))⟩; have n1_ : Aside0 (w2005.heap[gb155]? = some (.cells #[.int .i64 0, .int .i64 0, .bool false, .bool false, .int .i64 0, .int .i64 0, .int .i64 0, .int .i64 0, .int .i64 0, .slice none 0 0, .slice none 0 0] 51 (0, 0))) := ⟨(by rw [hw]; exact (by (with_reducible repeat (first | refine blk_drewN ?_ _ | refine blk_drew ?_ | refine blk_alloc ?_ _)); refine blk_far ?_ NB155_154.out _; (with_reducible repeat (first | refine blk_drewN ?_ _ | refine blk_drew ?_ | refine blk_alloc ?_ _)); refine blk_far ?_ NB155_154.out _; (with_reducible repeat (first | refine blk_drewN ?_ _ | refine blk_drew ?_ | refine blk_alloc ?_ _)); refine blk_far ?_ NB155_154.out _; (with_reducible repeat (first | refine blk_drewN ?_ _ | refine blk_drew ?_ | refine blk_alloc ?_ _)); refine blk_far ?_ NB155_154.out _; (with_reducible repeat (first | refine blk_drewN ?_ _ | refine blk_drew ?_ | refine blk_alloc ?_ _)); refine blk_far ?_ NB155_154.out _; (with_reducible repeat (first | refine blk_drewN ?_ _ | refine blk_drew ?_ | refine blk_alloc ?_ _)); refine blk_far ?_ NB155_154.out _; (with_reducible repeat (first | refine blk_drewN ?_ _ | refine blk_drew ?_ | refine blk_alloc ?_ _)); refine blk_far ?_ NB155_154.out _; (with_reducible repeat (first | refine blk_drewN ?_ _ | refine blk_drew ?_ | refine blk_alloc ?_ _)); refine blk_far ?_ NB155_154.out _; (with_reducible repeat (first | refine blk_drewN ?_ _ | refine blk_drew ?_ | refine blk_alloc ?_ _)); refine blk_far ?_ NB155_154.out _; (with_reducible repeat (first | refine blk_drewN ?_ _ | refine blk_drew ?_ | refine blk_alloc ?_ _)); refine blk_far ?_ NB155_154.out _; (with_reducible repeat (first | refine blk_drewN ?_ _ | refine blk_drew ?_ | refine blk_alloc ?_ _)); refine blk_far ?_ NB155_154.out _; (with_reducible repeat (first | refine blk_drewN ?_ _ | refine blk_drew ?_ | refine blk_alloc ?_ _)); exact BK155.out))⟩; have n2_ : Aside0 (Below w.heap.size w w2005) := ⟨(by rw [hw]; exact wB)⟩; clear hw; clear BK154; clear BK155; clear HB; have BK154 := n0_; have BK155 := n1_; have HB := n2_; clear n0_ n1_ n2_))
 refine bodyPost_ret (results_ct rfl _ _ gb154 51 #[.int .i64 0, .int .i64 0, .bool false, .bool false, .int .i64 0, .int .i64 0, .int .i64 0, .int .i64 0, .int .i64 0, .slice none 0 0, .slice none 0 0] (0, 0) _ rfl (Bh BK154) Try.underlying51 rfl (by kernel_rfl)) rfl ?_
 exact ⟨_, _, by first | rfl | (simp [errW_none, errW_some] <;> rfl) | (simp only [← hji1005]; first | rfl | (simp [errW_none, errW_some] <;> rfl)) | (simp [*, errW_none, errW_some] <;> rfl), by first | exact Kd.R_nil _ _ _ _ _ | exact Kd.N_nil _ _ _ _ _ | exact Kd.V_nil _ _ _ _ _ | exact Kd.Q_nil _ _ _ _ _ | exact Kd.S_nil _ _ _ _ _, by first | exact Kd.R_nil _ _ _ _ _ | exact Kd.N_nil _ _ _ _ _ | exact Kd.V_nil _ _ _ _ _ | exact Kd.Q_nil _ _ _ _ _ | exact Kd.S_nil _ _ _ _ _, wB⟩
 }
 }
 )
 }
 {
 rw [if_neg c4] at H
 have c4b0 : (((rd l0 0) / 16) == 4) = false := beq_eq_false_iff_ne.mpr c4
 have c4b1 : (((rd l0 0) / 16) != 4) = true := bne_iff_ne.mpr c4
 simp only [Option.some.injEq, Prod.mk.injEq] at H
 obtain ⟨rfl, rfl, rfl, rfl, rfl, rfl, rfl, rfl, rfl, rfl, rfl, rfl⟩ := H
 go_enter Try.func31, Try.ntmps31
 go_wp2_with (first | ((with_reducible refine gate_dst (N := 2) rfl ?_); (try (refine gate_guard (by rfl) ?_; dsimp only)); refine box_event ?hg (N := 2) ?hd (cs := #[.int .i64 0, .int .i64 0, .bool false, .bool false, .int .i64 0, .int .i64 0, .int .i64 0, .int .i64 0, .int .i64 0, .slice none 0 0, .slice none 0 0]) (t := 51) ?hr ?_; (case hd => rfl); (case hg => rfl); (case hr => first | (go_simp; done) | (go_simp; rfl)); intro gb154 hg w1001 hbox hb; have n0_ := Aside0.mk (below_step wB hb); have n1_ := Aside0.mk (hbox); have n2_ := Aside0.mk ((by rw [hg]; exact (below_size wB) : w.heap.size ≤ gb154)); have n3_ := Aside0.mk ((by rw [hg]; exact (below_size wB) : w.heap.size ≤ gb154)); clear HB; have HB := n0_; have BK154 := n1_; have GW154 := n2_; have GE154 := n3_; clear n0_ n1_ n2_ n3_; clear hb hbox hg) | ((with_reducible refine gate_dst (N := 4) rfl ?_); (try (refine gate_guard (by rfl) ?_; dsimp only)); refine box_event ?hg (N := 4) ?hd (cs := #[.int .i64 0, .int .i64 0, .bool false, .bool false, .int .i64 0, .int .i64 0, .int .i64 0, .int .i64 0, .int .i64 0, .slice none 0 0, .slice none 0 0]) (t := 51) ?hr ?_; (case hd => rfl); (case hg => rfl); (case hr => first | (go_simp; done) | (go_simp; rfl)); intro gb155 hg w1002 hbox hb; have n0_ := Aside0.mk (blk_below (Bh BK154) hb); have n1_ := Aside0.mk (below_step wB hb); have n2_ := Aside0.mk (hbox); have n3_ := Aside0.mk ((by rw [hg]; exact (below_size wB) : w.heap.size ≤ gb155)); have n4_ := Aside0.mk ((by rw [hg]; exact (below_size wB) : w.heap.size ≤ gb155)); have n5_ := Aside0.mk ((by rw [hg]; exact Nat.ne_of_lt (blk_lt (Bh BK154)) : gb154 ≠ gb155)); have n6_ := Aside0.mk ((by rw [hg]; exact Nat.ne_of_gt (blk_lt (Bh BK154)) : gb155 ≠ gb154)); clear BK154; clear HB; have BK154 := n0_; have HB := n1_; have BK155 := n2_; have GW155 := n3_; have GE155 := n4_; have NB154_155 := n5_; have NB155_154 := n6_; clear n0_ n1_ n2_ n3_ n4_ n5_ n6_; clear hb hbox hg; have p156 : 0 ≤ (0 : Int) := (by omega); have q156 : 0 < (l0.length : Int) := of_decide_eq_true (by first | (with_reducible assumption) | assumption); obtain ⟨ad156, e156, hx156_0⟩ := Kd.at_int HR0.out 0 p156 q156; cases e156; have qi156 : (0 < l0.length) = True := eq_true (by omega); (try rw [show ((0 : Int)).toNat = 0 from rfl] at hx156_0); (try rw [Addr.add_zero'] at hx156_0); replace hx156_0 := (HB.out.cell (World.block_lt_of_cell? w _ hx156_0)).trans hx156_0; replace p156 := eq_true p156; replace q156 := eq_true q156; have hnb1003 := NB155_154.out; have hnc1003 := NB154_155.out; obtain ⟨⟨hcz1004_0, hcz1004_1, hcz1004_2, hcz1004_3, hcz1004_4, hcz1004_5, hcz1004_6, hcz1004_7, hcz1004_8, hcz1004_9, hcz1004_10⟩, hfz1004_0, hfz1004_1, hfz1004_2, hfz1004_3, hfz1004_4, hfz1004_5, hfz1004_6, hfz1004_7, hfz1004_8, hfz1004_9, hfz1004_10⟩ := cells11 BK155.out; obtain ⟨⟨hcz1005_0, hcz1005_1, hcz1005_2, hcz1005_3, hcz1005_4, hcz1005_5, hcz1005_6, hcz1005_7, hcz1005_8, hcz1005_9, hcz1005_10⟩, hfz1005_0, hfz1005_1, hfz1005_2, hfz1005_3, hfz1005_4, hfz1005_5, hfz1005_6, hfz1005_7, hfz1005_8, hfz1005_9, hfz1005_10⟩ := cells11 BK154.out) | ((with_reducible refine gate_store (t := 51) (p := 2) rfl ?_); (try (rw [drewN_self w1002]; generalize hq_ : World.drewN w1002 _ = w1002; have n0_ := Aside0.mk (blk_at hq_ BK154.out); have n1_ := Aside0.mk (blk_at hq_ BK155.out); have n2_ := Aside0.mk (below_at hq_ HB.out); clear hq_ BK154 BK155 HB; have BK154 := n0_; have BK155 := n1_; have HB := n2_; clear n0_ n1_ n2_; (try (obtain ⟨⟨hcyBK154_0, hcyBK154_1, hcyBK154_2, hcyBK154_3, hcyBK154_4, hcyBK154_5, hcyBK154_6, hcyBK154_7, hcyBK154_8, hcyBK154_9, hcyBK154_10⟩, hfyBK154_0, hfyBK154_1, hfyBK154_2, hfyBK154_3, hfyBK154_4, hfyBK154_5, hfyBK154_6, hfyBK154_7, hfyBK154_8, hfyBK154_9, hfyBK154_10⟩ := cells11 BK154.out)); (try (obtain ⟨⟨hcyBK155_0, hcyBK155_1, hcyBK155_2, hcyBK155_3, hcyBK155_4, hcyBK155_5, hcyBK155_6, hcyBK155_7, hcyBK155_8, hcyBK155_9, hcyBK155_10⟩, hfyBK155_0, hfyBK155_1, hfyBK155_2, hfyBK155_3, hfyBK155_4, hfyBK155_5, hfyBK155_6, hfyBK155_7, hfyBK155_8, hfyBK155_9, hfyBK155_10⟩ := cells11 BK155.out)))); refine store_event (t := 51) (p := 2) (v := ?_) (w1 := (((((((((((w1002.setCell ⟨gb154, 0, none⟩ (.int .i64 0)).setCell ⟨gb154, 1, none⟩ (.int .i64 0)).setCell ⟨gb154, 2, none⟩ (.bool false)).setCell ⟨gb154, 3, none⟩ (.bool false)).setCell ⟨gb154, 4, none⟩ (.int .i64 0)).setCell ⟨gb154, 5, none⟩ (.int .i64 0)).setCell ⟨gb154, 6, none⟩ (.int .i64 0)).setCell ⟨gb154, 7, none⟩ (.int .i64 0)).setCell ⟨gb154, 8, none⟩ (.int .i64 0)).setCell ⟨gb154, 9, none⟩ (.slice none 0 0)).setCell ⟨gb154, 10, none⟩ (.slice none 0 0))) ?hg ?ho ?hn ?hr ?_; (case ho => rfl); (case hg => rfl); (case hn => rfl); (case hr => first | (go_simp; done) | (go_simp; rfl)); intro w1006 hw; have n0_ : Aside0 (w1006.heap[gb154]? = some (.cells #[.int .i64 0, .int .i64 0, .bool false, .bool false, .int .i64 0, .int .i64 0, .int .i64 0, .int .i64 0, .int .i64 0, .slice none 0 0, .slice none 0 0] 51 (0, 0))) := ⟨(by rw [hw]; exact (by (with_reducible repeat (first | refine blk_drewN ?_ _ | refine blk_drew ?_ | refine blk_alloc ?_ _)); refine blk_put (cs := #[.int .i64 0, .int .i64 0, .bool false, .bool false, .int .i64 0, .int .i64 0, .int .i64 0, .int .i64 0, .int .i64 0, .slice none 0 0, .slice none 0 0]) ?_ 10 _ rfl; (with_reducible repeat (first | refine blk_drewN ?_ _ | refine blk_drew ?_ | refine blk_alloc ?_ _)); refine blk_put (cs := #[.int .i64 0, .int .i64 0, .bool false, .bool false, .int .i64 0, .int .i64 0, .int .i64 0, .int .i64 0, .int .i64 0, .slice none 0 0, .slice none 0 0]) ?_ 9 _ rfl; (with_reducible repeat (first | refine blk_drewN ?_ _ | refine blk_drew ?_ | refine blk_alloc ?_ _)); refine blk_put (cs := #[.int .i64 0, .int .i64 0, .bool false, .bool false, .int .i64 0, .int .i64 0, .int .i64 0, .int .i64 0, .int .i64 0, .slice none 0 0, .slice none 0 0]) ?_ 8 _ rfl; (with_reducible repeat (first | refine blk_drewN ?_ _ | refine blk_drew ?_ | refine blk_alloc ?_ _)); refine blk_put (cs := #[.int .i64 0, .int .i64 0, .bool false, .bool false, .int .i64 0, .int .i64 0, .int .i64 0, .int .i64 0, .int .i64 0, .slice none 0 0, .slice none 0 0]) ?_ 7 _ rfl; (with_reducible repeat (first | refine blk_drewN ?_ _ | refine blk_drew ?_ | refine blk_alloc ?_ _)); refine blk_put (cs := #[.int .i64 0, .int .i64 0, .bool false, .bool false, .int .i64 0, .int .i64 0, .int .i64 0, .int .i64 0, .int .i64 0, .slice none 0 0, .slice none 0 0]) ?_ 6 _ rfl; (with_reducible repeat (first | refine blk_drewN ?_ _ | refine blk_drew ?_ | refine blk_alloc ?_ _)); refine blk_put (cs := #[.int .i64 0, .int .i64 0, .bool false, .bool false, .int .i64 0, .int .i64 0, .int .i64 0, .int .i64 0, .int .i64 0, .slice none 0 0, .slice none 0 0]) ?_ 5 _ rfl; (with_reducible repeat (first | refine blk_drewN ?_ _ | refine blk_drew ?_ | refine blk_alloc ?_ _)); refine blk_put (cs := #[.int .i64 0, .int .i64 0, .bool false, .bool false, .int .i64 0, .int .i64 0, .int .i64 0, .int .i64 0, .int .i64 0, .slice none 0 0, .slice none 0 0]) ?_ 4 _ rfl; (with_reducible repeat (first | refine blk_drewN ?_ _ | refine blk_drew ?_ | refine blk_alloc ?_ _)); refine blk_put (cs := #[.int .i64 0, .int .i64 0, .bool false, .bool false, .int .i64 0, .int .i64 0, .int .i64 0, .int .i64 0, .int .i64 0, .slice none 0 0, .slice none 0 0]) ?_ 3 _ rfl; (with_reducible repeat (first | refine blk_drewN ?_ _ | refine blk_drew ?_ | refine blk_alloc ?_ _)); refine blk_put (cs := #[.int .i64 0, .int .i64 0, .bool false, .bool false, .int .i64 0, .int .i64 0, .int .i64 0, .int .i64 0, .int .i64 0, .slice none 0 0, .slice none 0 0]) ?_ 2 _ rfl; (with_reducible repeat (first | refine blk_drewN ?_ _ | refine blk_drew ?_ | refine blk_alloc ?_ _)); refine blk_put (cs := #[.int .i64 0, .int .i64 0, .bool false, .bool false, .int .i64 0, .int .i64 0, .int .i64 0, .int .i64 0, .int .i64 0, .slice none 0 0, .slice none 0 0]) ?_ 1 _ rfl; (with_reducible repeat (first | refine blk_drewN ?_ _ | refine blk_drew ?_ | refine blk_alloc ?_ _)); refine blk_put (cs := #[.int .i64 0, .int .i64 0, .bool false, .bool false, .int .i64 0, .int .i64 0, .int .i64 0, .int .i64 0, .int .i64 0, .slice none 0 0, .slice none 0 0]) ?_ 0 _ rfl; (with_reducible repeat (first | refine blk_drewN ?_ _ | refine blk_drew ?_ | refine blk_alloc ?_ _)); exact BK154.out))⟩; have n1_ : Aside0 (w1006.heap[gb155]? = some (.cells #[.int .i64 0, .int .i64 0, .bool false, .bool false, .int .i64 0, .int .i64 0, .int .i64 0, .int .i64 0, .int .i64 0, .slice none 0 0, .slice none 0 0] 51 (0, 0))) := ⟨(by rw [hw]; exact (by (with_reducible repeat (first | refine blk_drewN ?_ _ | refine blk_drew ?_ | refine blk_alloc ?_ _)); refine blk_far ?_ NB155_154.out _; (with_reducible repeat (first | refine blk_drewN ?_ _ | refine blk_drew ?_ | refine blk_alloc ?_ _)); refine blk_far ?_ NB155_154.out _; (with_reducible repeat (first | refine blk_drewN ?_ _ | refine blk_drew ?_ | refine blk_alloc ?_ _)); refine blk_far ?_ NB155_154.out _; (with_reducible repeat (first | refine blk_drewN ?_ _ | refine blk_drew ?_ | refine blk_alloc ?_ _)); refine blk_far ?_ NB155_154.out _; (with_reducible repeat (first | refine blk_drewN ?_ _ | refine blk_drew ?_ | refine blk_alloc ?_ _)); refine blk_far ?_ NB155_154.out _; (with_reducible repeat (first | refine blk_drewN ?_ _ | refine blk_drew ?_ | refine blk_alloc ?_ _)); refine blk_far ?_ NB155_154.out _; (with_reducible repeat (first | refine blk_drewN ?_ _ | refine blk_drew ?_ | refine blk_alloc ?_ _)); refine blk_far ?_ NB155_154.out _; (with_reducible repeat (first | refine blk_drewN ?_ _ | refine blk_drew ?_ | refine blk_alloc ?_ _)); refine blk_far ?_ NB155_154.out _; (with_reducible repeat (first | refine blk_drewN ?_ _ | refine blk_drew ?_ | refine blk_alloc ?_ _)); refine blk_far ?_ NB155_154.out _; (with_reducible repeat (first | refine blk_drewN ?_ _ | refine blk_drew ?_ | refine blk_alloc ?_ _)); refine blk_far ?_ NB155_154.out _; (with_reducible repeat (first | refine blk_drewN ?_ _ | refine blk_drew ?_ | refine blk_alloc ?_ _)); refine blk_far ?_ NB155_154.out _; (with_reducible repeat (first | refine blk_drewN ?_ _ | refine blk_drew ?_ | refine blk_alloc ?_ _)); exact BK155.out))⟩; have n2_ : Aside0 (Below w.heap.size w w1006) := ⟨(by rw [hw]; exact wB)⟩; clear hw; clear BK154; clear BK155; clear HB; have BK154 := n0_; have BK155 := n1_; have HB := n2_; clear n0_ n1_ n2_))
 refine bodyPost_ret (results_ct rfl _ _ gb154 51 #[.int .i64 0, .int .i64 0, .bool false, .bool false, .int .i64 0, .int .i64 0, .int .i64 0, .int .i64 0, .int .i64 0, .slice none 0 0, .slice none 0 0] (0, 0) _ rfl (Bh BK154) Try.underlying51 rfl (by kernel_rfl)) rfl ?_
 exact ⟨_, _, by first | rfl | (simp [errW_none, errW_some] <;> rfl) | (simp [*, errW_none, errW_some] <;> rfl), by first | exact Kd.R_nil _ _ _ _ _ | exact Kd.N_nil _ _ _ _ _ | exact Kd.V_nil _ _ _ _ _ | exact Kd.Q_nil _ _ _ _ _ | exact Kd.S_nil _ _ _ _ _, by first | exact Kd.R_nil _ _ _ _ _ | exact Kd.N_nil _ _ _ _ _ | exact Kd.V_nil _ _ _ _ _ | exact Kd.Q_nil _ _ _ _ _ | exact Kd.S_nil _ _ _ _ _, wB⟩
 }
 }
 {
 rw [if_neg c3] at H
 exact absurd H (by simp)
 }
 }

end Go.Proofs.Ytkfbcmbemihbnaa.PFnExactDecodeIP
