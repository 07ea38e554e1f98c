-- Written for this claim by a program of this session (wip/mkprint.py: the print, turned at a few places). Not trusted: Lean checks it.
import Derived.Test.YtkfbcmbemihbnaaPFnExactBoardAgainx0
import Derived.Test.YtkfbcmbemihbnaaPFnExactBoardAgainx2
import Derived.Test.YtkfbcmbemihbnaaPFnExactBoardAgainx3
namespace Go.Proofs.Ytkfbcmbemihbnaa.PFnExactBoardAgain
open Go.RowKit Go.Proofs.YtkfbcmbemihbnaaW.PrintWords Go.Proofs.YtkfbcmbemihbnaaW.PrintLast Go.Proofs.YtkfbcmbemihbnaaW.PrintMore
attribute [local go_sem] max2_int min2_int max_two min_two max_three min_three max_four min_four   -- for this text's walks alone
set_option linter.unusedVariables false
set_option linter.unusedSimpArgs false

/-! ### spec_BoardAgain: function 49 -/
mutual
def spec_BoardAgain.j0 : Nat → Int → Bool → Int → Int → List (S85) → Option (Int × Int × (List (S85)) × Int × Int × Int × Int × Bool × Bool × Int)
  | 0, _, _, _, _, _ => none
  | k + 1, x1, x16, x162000, x162001, x162002 => if x16 = true then (some (0, 0, ([] : List (S85)), 0, 0, 0, 0, false, false, 1)) else ((spec_l15Copy.f x162000 x162001 x162002).bind fun bt166 => (spec_BoardAgain.l0 k x1 0 bt166.1 bt166.2.1 bt166.2.2))
def spec_BoardAgain.l0 : Nat → Int → Int → Int → Int → List (S85) → Option (Int × Int × (List (S85)) × Int × Int × Int × Int × Bool × Bool × Int)
  | 0, _, _, _, _, _ => none
  | k + 1, x1, x7, x162000, x162001, x162002 => if x7 < (x162002.length : Int) then (if 0 ≤ x7 then (if (rd_T85 x162002 x7).f5 = true then ((spec_l14Min.f (wrap64 (((rd_T85 x162002 x7).f3) + 1)) 1000000).bind fun t173 => (some (x162000, x162001, (x162002.set (x7 : Int).toNat (⟨(rd_T85 x162002 x7).f0, (rd_T85 x162002 x7).f1, x1, t173, (rd_T85 x162002 x7).f4, false⟩ : S85)), (rd_T85 x162002 x7).f0, (rd_T85 x162002 x7).f1, x1, t173, (rd_T85 x162002 x7).f4, false, 0))) else (spec_BoardAgain.l0 k x1 (wrap64 (x7 + 1)) x162000 x162001 x162002)) else (none)) else (some (0, 0, ([] : List (S85)), 0, 0, 0, 0, false, false, 13))
end
def spec_BoardAgain.f (k : Nat) (a0_0 : Int) (a0_1 : Int) (l0_2 : List (S85)) (a1 : Int) : Option (Int × Int × (List (S85)) × Int × Int × Int × Int × Bool × Bool × Int) := (spec_l15OK.f k a0_0 a0_1 l0_2).bind fun t164 => (if t164 = true then ((spec_l01In.f a1 0 1000000000).bind fun t165 => (spec_BoardAgain.j0 k a1 (!t165) a0_0 a0_1 l0_2)) else (spec_BoardAgain.j0 k a1 true a0_0 a0_1 l0_2))
theorem spec_BoardAgain.mono_l : ∀ k, (∀ y0 y1 y2 y3 y4, LeO (spec_BoardAgain.j0 k y0 y1 y2 y3 y4) (spec_BoardAgain.j0 (k + 1) y0 y1 y2 y3 y4)) ∧ (∀ y0 y1 y2 y3 y4, LeO (spec_BoardAgain.l0 k y0 y1 y2 y3 y4) (spec_BoardAgain.l0 (k + 1) y0 y1 y2 y3 y4))
  | 0 => ⟨fun _ _ _ _ _ r h => by simp [spec_BoardAgain.j0] at h, fun _ _ _ _ _ r h => by simp [spec_BoardAgain.l0] at h⟩
  | k + 1 => by
    obtain ⟨ih0, ih1⟩ := spec_BoardAgain.mono_l k
    refine ⟨?_, ?_⟩
    · intro y0 y1 y2 y3 y4
      unfold spec_BoardAgain.j0
      repeat' first
      | (with_reducible exact ih0 _ _ _ _ _)
      | (with_reducible exact ih1 _ _ _ _ _)
      | (with_reducible exact spec_l15OK.mono _ _ _ _)
      | (with_reducible exact LeO.refl _)
      | (with_reducible exact LeO.none _)
      | (with_reducible refine LeO.ite ?_ ?_)
      | (with_reducible refine LeO.bind ?_ (fun _ => ?_))
      | exact ih0 _ _ _ _ _
      | exact ih1 _ _ _ _ _
      | exact spec_l15OK.mono _ _ _ _
      | exact LeO.none _
      | refine LeO.ite ?_ ?_
      | refine LeO.bind ?_ (fun _ => ?_)
    · intro y0 y1 y2 y3 y4
      unfold spec_BoardAgain.l0
      repeat' first
      | (with_reducible exact ih0 _ _ _ _ _)
      | (with_reducible exact ih1 _ _ _ _ _)
      | (with_reducible exact spec_l15OK.mono _ _ _ _)
      | (with_reducible exact LeO.refl _)
      | (with_reducible exact LeO.none _)
      | (with_reducible refine LeO.ite ?_ ?_)
      | (with_reducible refine LeO.bind ?_ (fun _ => ?_))
      | exact ih0 _ _ _ _ _
      | exact ih1 _ _ _ _ _
      | exact spec_l15OK.mono _ _ _ _
      | exact LeO.none _
      | refine LeO.ite ?_ ?_
      | refine LeO.bind ?_ (fun _ => ?_)
theorem spec_BoardAgain.mono : ∀ a0 a1 a2 a3 k, LeO (spec_BoardAgain.f k a0 a1 a2 a3) (spec_BoardAgain.f (k + 1) a0 a1 a2 a3) := by
 intro a0 a1 a2 a3 k
 obtain ⟨ih0, ih1⟩ := spec_BoardAgain.mono_l k
 unfold spec_BoardAgain.f
 repeat' first
     | (with_reducible exact ih0 _ _ _ _ _)
     | (with_reducible exact ih1 _ _ _ _ _)
     | (with_reducible exact spec_l15OK.mono _ _ _ _)
     | (with_reducible exact LeO.refl _)
     | (with_reducible exact LeO.none _)
     | (with_reducible refine LeO.ite ?_ ?_)
     | (with_reducible refine LeO.bind ?_ (fun _ => ?_))
     | exact ih0 _ _ _ _ _
     | exact ih1 _ _ _ _ _
     | exact spec_l15OK.mono _ _ _ _
     | exact LeO.none _
     | refine LeO.ite ?_ ?_
     | refine LeO.bind ?_ (fun _ => ?_)
set_option maxHeartbeats 60000000 in
set_option maxRecDepth 100000 in
theorem spec_BoardAgain.calls (k : Nat) (a0_0 : Int) (a0_1 : Int) (A0_2 : Option Addr) (c0_2 : Nat) (l0_2 : List (S85)) (a1 : Int) (r1 : Int) (r2 : Int) (r3 : List (S85)) (r4 : Int) (r5 : Int) (r6 : Int) (r7 : Int) (r8 : Bool) (r9 : Bool) (r10 : Int) (w : World) (hr0_2 : Kd.C k85 w A0_2 l0_2.length l0_2) (hc0_2 : l0_2.length ≤ c0_2) (h : spec_BoardAgain.f k a0_0 a0_1 l0_2 a1 = some (r1, r2, r3, r4, r5, r6, r7, r8, r9, r10)) :
 Calls Try.prog 49 #[.agg #[.int .i64 a0_0, .int .i64 a0_1, .slice A0_2 l0_2.length c0_2], .int .i64 a1] w fun e w' => ∃ v2_ : Value, e = .returned (.tuple #[.agg #[.int .i64 r1, .int .i64 r2, v2_], .agg #[.int .i64 r4, .int .i64 r5, .int .i64 r6, .int .i64 r7, .bool r8, .bool r9], .int .i64 r10]) ∧ Kd.R k85 85 w' w.heap.size (fun _ => True) v2_ r3 ∧ Below w.heap.size w w' := by
 have hu63 := Try.underlying63
 have hu85 := Try.underlying85
 have HR0_2 := Aside0.mk hr0_2
 have HC0_2 := Aside0.mk hc0_2
 clear hr0_2 hc0_2
 have HB := Aside0.mk (Below.refl w.heap.size w)
 have H : ((spec_l15OK.f k a0_0 a0_1 l0_2).bind fun t164 => (if t164 = true then ((spec_l01In.f a1 0 1000000000).bind fun t165 => (spec_BoardAgain.j0 k a1 (!t165) a0_0 a0_1 l0_2)) else (spec_BoardAgain.j0 k a1 true a0_0 a0_1 l0_2))) = some (r1, r2, r3, r4, r5, r6, r7, r8, r9, r10) := h
 clear h
 have HC3 := Aside0.mk H
 clear H
 go_enter Try.func49, Try.ntmps49
 go_upto_region 1 with (first | ((with_reducible refine gate_dst (N := 2) rfl ?_); refine box_event ?hg (N := 2) ?hd (cs := #[.int .i64 a0_0, .int .i64 a0_1, .slice A0_2 l0_2.length c0_2]) (t := 63) ?hr ?_; (case hd => rfl); (case hg => rfl); (case hr => first | (go_simp; done) | (go_simp; rfl)); intro gb161 hg w1001 hbox hb; have n0_ := Aside0.mk (below_step wB hb); have n1_ := Aside0.mk (hbox); have n2_ := Aside0.mk ((by rw [hg]; exact (below_size wB) : w.heap.size ≤ gb161)); have n3_ := Aside0.mk ((by rw [hg]; exact (below_size wB) : w.heap.size ≤ gb161)); clear HB; have HB := n0_; have BK161 := n1_; have GW161 := n2_; have GE161 := n3_; clear n0_ n1_ n2_ n3_; clear hb hbox hg) | ((with_reducible refine gate_dst (N := 4) rfl ?_); refine box_event ?hg (N := 4) ?hd (cs := #[.int .i64 0, .int .i64 0, .slice none 0 0]) (t := 63) ?hr ?_; (case hd => rfl); (case hg => rfl); (case hr => first | (go_simp; done) | (go_simp; rfl)); intro gb162 hg w1002 hbox hb; have n0_ := Aside0.mk (blk_below (Bh BK161) hb); have n1_ := Aside0.mk (below_step wB hb); have n2_ := Aside0.mk (hbox); have n3_ := Aside0.mk ((by rw [hg]; exact (below_size wB) : w.heap.size ≤ gb162)); have n4_ := Aside0.mk ((by rw [hg]; exact (below_size wB) : w.heap.size ≤ gb162)); have n5_ := Aside0.mk ((by rw [hg]; exact Nat.ne_of_lt (blk_lt (Bh BK161)) : gb161 ≠ gb162)); have n6_ := Aside0.mk ((by rw [hg]; exact Nat.ne_of_gt (blk_lt (Bh BK161)) : gb162 ≠ gb161)); clear BK161; clear HB; have BK161 := n0_; have HB := n1_; have BK162 := n2_; have GW162 := n3_; have GE162 := n4_; have NB161_162 := n5_; have NB162_161 := n6_; clear n0_ n1_ n2_ n3_ n4_ n5_ n6_; clear hb hbox hg) | ((with_reducible refine gate_dst (N := 5) rfl ?_); refine box_event ?hg (N := 5) ?hd (cs := #[.int .i64 0, .int .i64 0, .int .i64 0, .int .i64 0, .bool false, .bool false]) (t := 85) ?hr ?_; (case hd => rfl); (case hg => rfl); (case hr => first | (go_simp; done) | (go_simp; rfl)); intro gb163 hg w1003 hbox hb; have n0_ := Aside0.mk (blk_below (Bh BK161) hb); have n1_ := Aside0.mk (blk_below (Bh BK162) hb); have n2_ := Aside0.mk (below_step wB hb); have n3_ := Aside0.mk (hbox); have n4_ := Aside0.mk ((by rw [hg]; exact (below_size wB) : w.heap.size ≤ gb163)); have n5_ := Aside0.mk ((by rw [hg]; exact (below_size wB) : w.heap.size ≤ gb163)); have n6_ := Aside0.mk ((by rw [hg]; exact Nat.ne_of_lt (blk_lt (Bh BK161)) : gb161 ≠ gb163)); have n7_ := Aside0.mk ((by rw [hg]; exact Nat.ne_of_gt (blk_lt (Bh BK161)) : gb163 ≠ gb161)); have n8_ := Aside0.mk ((by rw [hg]; exact Nat.ne_of_lt (blk_lt (Bh BK162)) : gb162 ≠ gb163)); have n9_ := Aside0.mk ((by rw [hg]; exact Nat.ne_of_gt (blk_lt (Bh BK162)) : gb163 ≠ gb162)); clear BK161; clear BK162; clear HB; have BK161 := n0_; have BK162 := n1_; have HB := n2_; have BK163 := n3_; have GW163 := n4_; have GE163 := n5_; have NB161_163 := n6_; have NB163_161 := n7_; have NB162_163 := n8_; have NB163_162 := n9_; clear n0_ n1_ n2_ n3_ n4_ n5_ n6_ n7_ n8_ n9_; clear hb hbox hg))
 (try simp only [Act.put, List.setIfInBounds_toArray, List.set_cons_zero, List.set_cons_succ])
 go_cut [16] (fun v16 wc => ∃ (kq : Nat) (x16_2 : Bool), v16 = .bool x16_2 ∧ Aside0 (spec_BoardAgain.j0 kq a1 x16_2 a0_0 a0_1 l0_2 = some (r1, r2, r3, r4, r5, r6, r7, r8, r9, r10)) ∧ Aside0 (kq ≤ k) ∧ Aside0 (wc.heap[gb161]? = some (.cells #[.int .i64 a0_0, .int .i64 a0_1, (.slice A0_2 l0_2.length c0_2)] 63 (0, 0))) ∧ Aside0 (wc.heap[gb162]? = some (.cells #[.int .i64 0, .int .i64 0, (.slice none 0 0)] 63 (0, 0))) ∧ Aside0 (wc.heap[gb163]? = some (.cells #[.int .i64 0, .int .i64 0, .int .i64 0, .int .i64 0, .bool false, .bool false] 85 (0, 0))) ∧ Aside0 (Below w.heap.size w wc))
 case first => (
 have H := HC3.out
 clear HC3
 replace H := Option.bind_eq_some_iff.mp H
 obtain ⟨t164, A10040, H⟩ := H
 replace H : (if t164 = true then ((spec_l01In.f a1 0 1000000000).bind fun t165 => (spec_BoardAgain.j0 k a1 (!t165) a0_0 a0_1 l0_2)) else (spec_BoardAgain.j0 k a1 true a0_0 a0_1 l0_2)) = some (r1, r2, r3, r4, r5, r6, r7, r8, r9, r10) := H
 have A1004 := Aside0.mk A10040
 clear A10040
 by_cases c1005 : t164 = true
 subst c1005
 have H1 : ((spec_l01In.f a1 0 1000000000).bind fun t165 => (spec_BoardAgain.j0 k a1 (!t165) a0_0 a0_1 l0_2)) = some (r1, r2, r3, r4, r5, r6, r7, r8, r9, r10) := by rw [if_pos rfl] at H; exact H
 clear H
 have H := H1
 clear H1
 replace H := Option.bind_eq_some_iff.mp H
 obtain ⟨t165, A10060, H⟩ := H
 replace H : (spec_BoardAgain.j0 k a1 (!t165) a0_0 a0_1 l0_2) = some (r1, r2, r3, r4, r5, r6, r7, r8, r9, r10) := H
 have A1006 := Aside0.mk A10060
 clear A10060
 have H' := Aside0.mk H
 clear H
 rotate_left
 replace c1005 := Bool.eq_false_iff.mpr c1005
 subst c1005
 have H1 : (spec_BoardAgain.j0 k a1 true a0_0 a0_1 l0_2) = some (r1, r2, r3, r4, r5, r6, r7, r8, r9, r10) := by rw [if_neg (show ¬ (false = true) by decide)] at H; exact H
 clear H
 have H := H1
 clear H1
 have H' := Aside0.mk H
 clear H
 rotate_left
 all_goals (
 have hnb2001 := NB161_162.out
 have hnc2001 := NB162_161.out
 have hnb2002 := NB161_163.out
 have hnc2002 := NB163_161.out
 obtain ⟨⟨hcz2003_0, hcz2003_1, hcz2003_2⟩, hfz2003_0, hfz2003_1, hfz2003_2⟩ := cells3 BK161.out
 go_wp2_with (first | ((with_reducible refine gate_callee (f := 83) rfl ?_); refine goesL_ (some 10) rfl rfl Try.func83 (by kernel_rfl) rfl #[.agg #[.int .i64 a0_0, .int .i64 a0_1, .slice A0_2 l0_2.length c0_2]] rfl wT ?_; (with_reducible refine (spec_l15OK.calls k a0_0 a0_1 _ _ l0_2 _ _ ?side1 ?side2 A1004.out).mono ?_); (case side1 => exact Kd.C_below HR0_2.out wB); (case side2 => exact HC0_2.out); rintro e w2004 ⟨rfl, hb⟩; refine ⟨_, rfl, ?_⟩; have n0_ := Aside0.mk (blk_below (Bh BK161) hb); have n1_ := Aside0.mk (blk_below (Bh BK162) hb); have n2_ := Aside0.mk (blk_below (Bh BK163) hb); have n3_ := Aside0.mk (below_step wB hb); clear BK161; clear BK162; clear BK163; clear HB; have BK161 := n0_; have BK162 := n1_; have BK163 := n2_; have HB := n3_; clear n0_ n1_ n2_ n3_; (try clear hb); (try clear hb2); (try clear hk); (try clear hi)) | (go_at_call 73; (with_reducible refine (spec_l01In.calls a1 0 1000000000 t165 _ A1006.out).mono ?_); rintro e w' ⟨rfl, ⟨nd, rfl⟩⟩))
 go_meet
 )
 {
 case rel => exact ⟨_, (!t165), (by first | rfl | (simp; done) | (simp [*]; done)), H', ⟨by first | omega | exact Nat.le_refl _⟩, ⟨Bh BK161⟩, ⟨Bh BK162⟩, ⟨Bh BK163⟩, ⟨wB⟩⟩
 }
 {
 case rel => exact ⟨_, (true), (by first | rfl | (simp; done) | (simp [*]; done)), H', ⟨by first | omega | exact Nat.le_refl _⟩, ⟨Bh BK161⟩, ⟨Bh BK162⟩, ⟨Bh BK163⟩, ⟨wB⟩⟩
 }
 )
 case rest => (
 clear HC3
 try clear c0
 try clear c1005
 try clear hcz2003_0 hcz2003_1 hcz2003_2 hfz2003_0 hfz2003_1 hfz2003_2
 obtain ⟨kq, x16_2, rfl, HA, HJ2, BK161, BK162, BK163, HB⟩ := hcut
 cases kq with
 | zero => exact absurd HA.out (by simp [spec_BoardAgain.j0])
 | succ kj2 => {
 have H := HA.out
 clear HA
 simp only [spec_BoardAgain.j0] at H
 by_cases c1007 : x16_2 = true
 {
 subst c1007
 have H1 : (some (0, 0, ([] : List (S85)), 0, 0, 0, 0, false, false, 1)) = some (r1, r2, r3, r4, r5, r6, r7, r8, r9, r10) := by rw [if_pos rfl] at H; exact H
 clear H
 have H := H1
 clear H1
 simp only [Option.some.injEq, Prod.mk.injEq] at H
 obtain ⟨rfl, rfl, rfl, rfl, rfl, rfl, rfl, rfl, rfl, rfl⟩ := H
 have hnb2001 := NB162_161.out
 have hnc2001 := NB161_162.out
 have hnb2002 := NB162_163.out
 have hnc2002 := NB163_162.out
 obtain ⟨⟨hcz2003_0, hcz2003_1, hcz2003_2⟩, hfz2003_0, hfz2003_1, hfz2003_2⟩ := cells3 BK162.out
 go_wp2_with (first | ((with_reducible refine gate_store (t := 63) (p := 4) rfl ?_); (try (rw [drewN_self wc]; generalize hq_ : World.drewN wc _ = wc; have n0_ := Aside0.mk (blk_at hq_ BK161.out); have n1_ := Aside0.mk (blk_at hq_ BK162.out); have n2_ := Aside0.mk (blk_at hq_ BK163.out); have n3_ := Aside0.mk (below_at hq_ HB.out); clear hq_ BK161 BK162 BK163 HB; have BK161 := n0_; have BK162 := n1_; have BK163 := n2_; have HB := n3_; clear n0_ n1_ n2_ n3_; (try (obtain ⟨⟨hcyBK161_0, hcyBK161_1, hcyBK161_2⟩, hfyBK161_0, hfyBK161_1, hfyBK161_2⟩ := cells3 BK161.out)); (try (obtain ⟨⟨hcyBK162_0, hcyBK162_1, hcyBK162_2⟩, hfyBK162_0, hfyBK162_1, hfyBK162_2⟩ := cells3 BK162.out)); (try (obtain ⟨⟨hcyBK163_0, hcyBK163_1, hcyBK163_2, hcyBK163_3, hcyBK163_4, hcyBK163_5⟩, hfyBK163_0, hfyBK163_1, hfyBK163_2, hfyBK163_3, hfyBK163_4, hfyBK163_5⟩ := cells6 BK163.out)))); refine store_event (t := 63) (p := 4) (v := ?_) (w1 := (((wc.setCell ⟨gb162, 0, none⟩ (.int .i64 0)).setCell ⟨gb162, 1, none⟩ (.int .i64 0)).setCell ⟨gb162, 2, none⟩ (.slice none 0 0))) ?hg ?ho ?hn ?hr ?_; (case ho => rfl); (case hg => rfl); (case hn => rfl); (case hr => first | (go_simp; done) | (go_simp; rfl)); intro w2004 hw; have n0_ : Aside0 (w2004.heap[gb161]? = some (.cells #[.int .i64 a0_0, .int .i64 a0_1, .slice A0_2 l0_2.length c0_2] 63 (0, 0))) := ⟨(by rw [hw]; exact (by (with_reducible repeat (first | refine blk_drewN ?_ _ | refine blk_drew ?_ | refine blk_alloc ?_ _)); refine blk_far ?_ NB161_162.out _; (with_reducible repeat (first | refine blk_drewN ?_ _ | refine blk_drew ?_ | refine blk_alloc ?_ _)); refine blk_far ?_ NB161_162.out _; (with_reducible repeat (first | refine blk_drewN ?_ _ | refine blk_drew ?_ | refine blk_alloc ?_ _)); refine blk_far ?_ NB161_162.out _; (with_reducible repeat (first | refine blk_drewN ?_ _ | refine blk_drew ?_ | refine blk_alloc ?_ _)); exact BK161.out))⟩; have n1_ : Aside0 (w2004.heap[gb162]? = some (.cells #[.int .i64 0, .int .i64 0, .slice none 0 0] 63 (0, 0))) := ⟨(by rw [hw]; exact (by (with_reducible repeat (first | refine blk_drewN ?_ _ | refine blk_drew ?_ | refine blk_alloc ?_ _)); refine blk_put (cs := #[.int .i64 0, .int .i64 0, .slice none 0 0]) ?_ 2 _ rfl; (with_reducible repeat (first | refine blk_drewN ?_ _ | refine blk_drew ?_ | refine blk_alloc ?_ _)); refine blk_put (cs := #[.int .i64 0, .int .i64 0, .slice none 0 0]) ?_ 1 _ rfl; (with_reducible repeat (first | refine blk_drewN ?_ _ | refine blk_drew ?_ | refine blk_alloc ?_ _)); refine blk_put (cs := #[.int .i64 0, .int .i64 0, .slice none 0 0]) ?_ 0 _ rfl; (with_reducible repeat (first | refine blk_drewN ?_ _ | refine blk_drew ?_ | refine blk_alloc ?_ _)); exact BK162.out))⟩; have n2_ : Aside0 (w2004.heap[gb163]? = some (.cells #[.int .i64 0, .int .i64 0, .int .i64 0, .int .i64 0, .bool false, .bool false] 85 (0, 0))) := ⟨(by rw [hw]; exact (by (with_reducible repeat (first | refine blk_drewN ?_ _ | refine blk_drew ?_ | refine blk_alloc ?_ _)); refine blk_far ?_ NB163_162.out _; (with_reducible repeat (first | refine blk_drewN ?_ _ | refine blk_drew ?_ | refine blk_alloc ?_ _)); refine blk_far ?_ NB163_162.out _; (with_reducible repeat (first | refine blk_drewN ?_ _ | refine blk_drew ?_ | refine blk_alloc ?_ _)); refine blk_far ?_ NB163_162.out _; (with_reducible repeat (first | refine blk_drewN ?_ _ | refine blk_drew ?_ | refine blk_alloc ?_ _)); exact BK163.out))⟩; have n3_ : Aside0 (Below w.heap.size w w2004) := ⟨(by rw [hw]; exact wB)⟩; clear hw; clear BK161; clear BK162; clear BK163; clear HB; have BK161 := n0_; have BK162 := n1_; have BK163 := n2_; have HB := n3_; clear n0_ n1_ n2_ n3_; have hnb2005 := NB163_161.out; have hnc2005 := NB161_163.out; obtain ⟨⟨hcz2006_0, hcz2006_1, hcz2006_2, hcz2006_3, hcz2006_4, hcz2006_5⟩, hfz2006_0, hfz2006_1, hfz2006_2, hfz2006_3, hfz2006_4, hfz2006_5⟩ := cells6 BK163.out) | ((with_reducible refine gate_store (t := 85) (p := 5) rfl ?_); (try (rw [drewN_self w2004]; generalize hq_ : World.drewN w2004 _ = w2004; have n0_ := Aside0.mk (blk_at hq_ BK161.out); have n1_ := Aside0.mk (blk_at hq_ BK162.out); have n2_ := Aside0.mk (blk_at hq_ BK163.out); have n3_ := Aside0.mk (below_at hq_ HB.out); clear hq_ BK161 BK162 BK163 HB; have BK161 := n0_; have BK162 := n1_; have BK163 := n2_; have HB := n3_; clear n0_ n1_ n2_ n3_; (try (obtain ⟨⟨hcyBK161_0, hcyBK161_1, hcyBK161_2⟩, hfyBK161_0, hfyBK161_1, hfyBK161_2⟩ := cells3 BK161.out)); (try (obtain ⟨⟨hcyBK162_0, hcyBK162_1, hcyBK162_2⟩, hfyBK162_0, hfyBK162_1, hfyBK162_2⟩ := cells3 BK162.out)); (try (obtain ⟨⟨hcyBK163_0, hcyBK163_1, hcyBK163_2, hcyBK163_3, hcyBK163_4, hcyBK163_5⟩, hfyBK163_0, hfyBK163_1, hfyBK163_2, hfyBK163_3, hfyBK163_4, hfyBK163_5⟩ := cells6 BK163.out)))); refine store_event (t := 85) (p := 5) (v := ?_) (w1 := ((((((w2004.setCell ⟨gb163, 0, none⟩ (.int .i64 0)).setCell ⟨gb163, 1, none⟩ (.int .i64 0)).setCell ⟨gb163, 2, none⟩ (.int .i64 0)).setCell ⟨gb163, 3, none⟩ (.int .i64 0)).setCell ⟨gb163, 4, none⟩ (.bool false)).setCell ⟨gb163, 5, none⟩ (.bool false))) ?hg ?ho ?hn ?hr ?_; (case ho => rfl); (case hg => rfl); (case hn => rfl); (case hr => first | (go_simp; done) | (go_simp; rfl)); intro w2007 hw; have n0_ : Aside0 (w2007.heap[gb161]? = some (.cells #[.int .i64 a0_0, .int .i64 a0_1, .slice A0_2 l0_2.length c0_2] 63 (0, 0))) := ⟨(by rw [hw]; exact (by (with_reducible repeat (first | refine blk_drewN ?_ _ | refine blk_drew ?_ | refine blk_alloc ?_ _)); refine blk_far ?_ NB161_163.out _; (with_reducible repeat (first | refine blk_drewN ?_ _ | refine blk_drew ?_ | refine blk_alloc ?_ _)); refine blk_far ?_ NB161_163.out _; (with_reducible repeat (first | refine blk_drewN ?_ _ | refine blk_drew ?_ | refine blk_alloc ?_ _)); refine blk_far ?_ NB161_163.out _; (with_reducible repeat (first | refine blk_drewN ?_ _ | refine blk_drew ?_ | refine blk_alloc ?_ _)); refine blk_far ?_ NB161_163.out _; (with_reducible repeat (first | refine blk_drewN ?_ _ | refine blk_drew ?_ | refine blk_alloc ?_ _)); refine blk_far ?_ NB161_163.out _; (with_reducible repeat (first | refine blk_drewN ?_ _ | refine blk_drew ?_ | refine blk_alloc ?_ _)); refine blk_far ?_ NB161_163.out _; (with_reducible repeat (first | refine blk_drewN ?_ _ | refine blk_drew ?_ | refine blk_alloc ?_ _)); exact BK161.out))⟩; have n1_ : Aside0 (w2007.heap[gb162]? = some (.cells #[.int .i64 0, .int .i64 0, .slice none 0 0] 63 (0, 0))) := ⟨(by rw [hw]; exact (by (with_reducible repeat (first | refine blk_drewN ?_ _ | refine blk_drew ?_ | refine blk_alloc ?_ _)); refine blk_far ?_ NB162_163.out _; (with_reducible repeat (first | refine blk_drewN ?_ _ | refine blk_drew ?_ | refine blk_alloc ?_ _)); refine blk_far ?_ NB162_163.out _; (with_reducible repeat (first | refine blk_drewN ?_ _ | refine blk_drew ?_ | refine blk_alloc ?_ _)); refine blk_far ?_ NB162_163.out _; (with_reducible repeat (first | refine blk_drewN ?_ _ | refine blk_drew ?_ | refine blk_alloc ?_ _)); refine blk_far ?_ NB162_163.out _; (with_reducible repeat (first | refine blk_drewN ?_ _ | refine blk_drew ?_ | refine blk_alloc ?_ _)); refine blk_far ?_ NB162_163.out _; (with_reducible repeat (first | refine blk_drewN ?_ _ | refine blk_drew ?_ | refine blk_alloc ?_ _)); refine blk_far ?_ NB162_163.out _; (with_reducible repeat (first | refine blk_drewN ?_ _ | refine blk_drew ?_ | refine blk_alloc ?_ _)); exact BK162.out))⟩; have n2_ : Aside0 (w2007.heap[gb163]? = some (.cells #[.int .i64 0, .int .i64 0, .int .i64 0, .int .i64 0, .bool false, .bool false] 85 (0, 0))) := ⟨(by rw [hw]; exact (by (with_reducible repeat (first | refine blk_drewN ?_ _ | refine blk_drew ?_ | refine blk_alloc ?_ _)); refine blk_put (cs := #[.int .i64 0, .int .i64 0, .int .i64 0, .int .i64 0, .bool false, .bool false]) ?_ 5 _ rfl; (with_reducible repeat (first | refine blk_drewN ?_ _ | refine blk_drew ?_ | refine blk_alloc ?_ _)); refine blk_put (cs := #[.int .i64 0, .int .i64 0, .int .i64 0, .int .i64 0, .bool false, .bool false]) ?_ 4 _ rfl; (with_reducible repeat (first | refine blk_drewN ?_ _ | refine blk_drew ?_ | refine blk_alloc ?_ _)); refine blk_put (cs := #[.int .i64 0, .int .i64 0, .int .i64 0, .int .i64 0, .bool false, .bool false]) ?_ 3 _ rfl; (with_reducible repeat (first | refine blk_drewN ?_ _ | refine blk_drew ?_ | refine blk_alloc ?_ _)); refine blk_put (cs := #[.int .i64 0, .int .i64 0, .int .i64 0, .int .i64 0, .bool false, .bool false]) ?_ 2 _ rfl; (with_reducible repeat (first | refine blk_drewN ?_ _ | refine blk_drew ?_ | refine blk_alloc ?_ _)); refine blk_put (cs := #[.int .i64 0, .int .i64 0, .int .i64 0, .int .i64 0, .bool false, .bool false]) ?_ 1 _ rfl; (with_reducible repeat (first | refine blk_drewN ?_ _ | refine blk_drew ?_ | refine blk_alloc ?_ _)); refine blk_put (cs := #[.int .i64 0, .int .i64 0, .int .i64 0, .int .i64 0, .bool false, .bool false]) ?_ 0 _ rfl; (with_reducible repeat (first | refine blk_drewN ?_ _ | refine blk_drew ?_ | refine blk_alloc ?_ _)); exact BK163.out))⟩; have n3_ : Aside0 (Below w.heap.size w w2007) := ⟨(by rw [hw]; exact wB)⟩; clear hw; clear BK161; clear BK162; clear BK163; clear HB; have BK161 := n0_; have BK162 := n1_; have BK163 := n2_; have HB := n3_; clear n0_ n1_ n2_ n3_))
 refine bodyPost_ret (results_list (rs := [.cell 4 63, .cell 5 85, .tmp 6]) rfl (by simp) (.cell gb162 63 #[.int .i64 0, .int .i64 0, .slice none 0 0] (0, 0) _ rfl (Bh BK162) Try.underlying63 rfl (by kernel_rfl) (.cell gb163 85 #[.int .i64 0, .int .i64 0, .int .i64 0, .int .i64 0, .bool false, .bool false] (0, 0) _ rfl (Bh BK163) Try.underlying85 rfl (by kernel_rfl) (.tmp .nil)))) rfl ?_
 exact ⟨_, by first | rfl | (simp [errW_none, errW_some] <;> rfl) | (simp [*, errW_none, errW_some] <;> rfl), by first | exact Kd.R_nil _ _ _ _ _ | exact Kd.N_nil _ _ _ _ _ | exact Kd.V_nil _ _ _ _ _ | exact Kd.Q_nil _ _ _ _ _ | exact Kd.S_nil _ _ _ _ _, wB⟩
 }
 {
 replace c1007 := Bool.eq_false_iff.mpr c1007
 subst c1007
 have H1 : ((spec_l15Copy.f a0_0 a0_1 l0_2).bind fun bt166 => (spec_BoardAgain.l0 kj2 a1 0 bt166.1 bt166.2.1 bt166.2.2)) = some (r1, r2, r3, r4, r5, r6, r7, r8, r9, r10) := by rw [if_neg (show ¬ (false = true) by decide)] at H; exact H
 clear H
 have H := H1
 clear H1
 replace H := Option.bind_eq_some_iff.mp H
 obtain ⟨⟨t166, t167, t168⟩, A10080, H⟩ := H
 replace H : (spec_BoardAgain.l0 kj2 a1 0 t166 t167 t168) = some (r1, r2, r3, r4, r5, r6, r7, r8, r9, r10) := H
 have A1008 := Aside0.mk A10080
 clear A10080
 have H' := Aside0.mk H
 clear H
 have hnb2001 := NB161_162.out
 have hnc2001 := NB162_161.out
 have hnb2002 := NB161_163.out
 have hnc2002 := NB163_161.out
 obtain ⟨⟨hcz2003_0, hcz2003_1, hcz2003_2⟩, hfz2003_0, hfz2003_1, hfz2003_2⟩ := cells3 BK161.out
 go_wp2_with (first | ((with_reducible refine gate_callee (f := 84) rfl ?_); refine goesL_ (some 20) rfl rfl Try.func84 (by kernel_rfl) rfl #[.agg #[.int .i64 a0_0, .int .i64 a0_1, .slice A0_2 l0_2.length c0_2]] rfl wT ?_; (with_reducible refine (spec_l15Copy.calls a0_0 a0_1 _ _ l0_2 t166 t167 t168 _ ?side1 ?side2 A1008.out).mono ?_); (case side1 => exact Kd.C_below HR0_2.out wB); (case side2 => exact HC0_2.out); rintro e w2004 ⟨v169, rfl, ho0, hb⟩; refine ⟨_, rfl, ?_⟩; have n0_ := Aside0.mk (Kd.R_lower (Kd.R_newB ho0 (Bh BK163)) (below_size wB)); have n1_ := Aside0.mk (blk_below (Bh BK161) hb); have n2_ := Aside0.mk (blk_below (Bh BK162) hb); have n3_ := Aside0.mk (blk_below (Bh BK163) hb); have n4_ := Aside0.mk (below_step wB hb); clear BK161; clear BK162; clear BK163; clear HB; have HO170 := n0_; have BK161 := n1_; have BK162 := n2_; have BK163 := n3_; have HB := n4_; clear n0_ n1_ n2_ n3_ n4_; (try clear hb); (try clear hb2); (try clear hk); (try clear hi); (try clear ho0); obtain ⟨⟨hcz2005_0, hcz2005_1, hcz2005_2⟩, hfz2005_0, hfz2005_1, hfz2005_2⟩ := cells3 BK161.out; obtain ⟨Ao2006, co2006, eo2006⟩ := Kd.R_slice HO170.out; subst eo2006) | ((with_reducible refine gate_store (t := 63) (p := 2) rfl ?_); (try (rw [drewN_self w2004]; generalize hq_ : World.drewN w2004 _ = w2004; have n0_ := Aside0.mk (Kd.R_at hq_ HO170.out); have n1_ := Aside0.mk (blk_at hq_ BK161.out); have n2_ := Aside0.mk (blk_at hq_ BK162.out); have n3_ := Aside0.mk (blk_at hq_ BK163.out); have n4_ := Aside0.mk (below_at hq_ HB.out); clear hq_ HO170 BK161 BK162 BK163 HB; have HO170 := n0_; have BK161 := n1_; have BK162 := n2_; have BK163 := n3_; have HB := n4_; clear n0_ n1_ n2_ n3_ n4_; (try (obtain ⟨⟨hcyBK161_0, hcyBK161_1, hcyBK161_2⟩, hfyBK161_0, hfyBK161_1, hfyBK161_2⟩ := cells3 BK161.out)); (try (obtain ⟨⟨hcyBK162_0, hcyBK162_1, hcyBK162_2⟩, hfyBK162_0, hfyBK162_1, hfyBK162_2⟩ := cells3 BK162.out)); (try (obtain ⟨⟨hcyBK163_0, hcyBK163_1, hcyBK163_2, hcyBK163_3, hcyBK163_4, hcyBK163_5⟩, hfyBK163_0, hfyBK163_1, hfyBK163_2, hfyBK163_3, hfyBK163_4, hfyBK163_5⟩ := cells6 BK163.out)))); refine store_event (t := 63) (p := 2) (v := ?_) (w1 := (((w2004.setCell ⟨gb161, 0, none⟩ (.int .i64 t166)).setCell ⟨gb161, 1, none⟩ (.int .i64 t167)).setCell ⟨gb161, 2, none⟩ (.slice Ao2006 t168.length co2006))) ?hg ?ho ?hn ?hr ?_; (case ho => rfl); (case hg => rfl); (case hn => rfl); (case hr => first | (go_simp; done) | (go_simp; rfl)); intro w2007 hw; have n0_ : Aside0 (Kd.R k85 85 w2007 w.heap.size (fun k_ => k_ ≠ gb163) (.slice Ao2006 t168.length co2006) t168) := ⟨(by rw [hw]; exact (by (with_reducible repeat (first | apply Kd.R_alloc | apply Kd.R_drewN | apply Kd.R_drew)); exact Kd.R_mono (Kd.R_far (p := ⟨gb161, 2, none⟩) (Kd.R_far (p := ⟨gb161, 1, none⟩) (Kd.R_far (p := ⟨gb161, 0, none⟩) (Kd.R_types HO170.out BK161.out (by decide)) (fun _ hk => hk.2) (.int .i64 t166)) (fun _ hk => hk.2) (.int .i64 t167)) (fun _ hk => hk.2) (.slice Ao2006 t168.length co2006)) (fun _ hk => hk.1.2)))⟩; have n1_ : Aside0 (w2007.heap[gb161]? = some (.cells #[.int .i64 t166, .int .i64 t167, .slice Ao2006 t168.length co2006] 63 (0, 0))) := ⟨(by rw [hw]; exact (by (with_reducible repeat (first | refine blk_drewN ?_ _ | refine blk_drew ?_ | refine blk_alloc ?_ _)); refine blk_put (cs := #[.int .i64 t166, .int .i64 t167, .slice A0_2 l0_2.length c0_2]) ?_ 2 _ rfl; (with_reducible repeat (first | refine blk_drewN ?_ _ | refine blk_drew ?_ | refine blk_alloc ?_ _)); refine blk_put (cs := #[.int .i64 t166, .int .i64 a0_1, .slice A0_2 l0_2.length c0_2]) ?_ 1 _ rfl; (with_reducible repeat (first | refine blk_drewN ?_ _ | refine blk_drew ?_ | refine blk_alloc ?_ _)); refine blk_put (cs := #[.int .i64 a0_0, .int .i64 a0_1, .slice A0_2 l0_2.length c0_2]) ?_ 0 _ rfl; (with_reducible repeat (first | refine blk_drewN ?_ _ | refine blk_drew ?_ | refine blk_alloc ?_ _)); exact BK161.out))⟩; have n2_ : Aside0 (w2007.heap[gb162]? = some (.cells #[.int .i64 0, .int .i64 0, .slice none 0 0] 63 (0, 0))) := ⟨(by rw [hw]; exact (by (with_reducible repeat (first | refine blk_drewN ?_ _ | refine blk_drew ?_ | refine blk_alloc ?_ _)); refine blk_far ?_ NB162_161.out _; (with_reducible repeat (first | refine blk_drewN ?_ _ | refine blk_drew ?_ | refine blk_alloc ?_ _)); refine blk_far ?_ NB162_161.out _; (with_reducible repeat (first | refine blk_drewN ?_ _ | refine blk_drew ?_ | refine blk_alloc ?_ _)); refine blk_far ?_ NB162_161.out _; (with_reducible repeat (first | refine blk_drewN ?_ _ | refine blk_drew ?_ | refine blk_alloc ?_ _)); exact BK162.out))⟩; have n3_ : Aside0 (w2007.heap[gb163]? = some (.cells #[.int .i64 0, .int .i64 0, .int .i64 0, .int .i64 0, .bool false, .bool false] 85 (0, 0))) := ⟨(by rw [hw]; exact (by (with_reducible repeat (first | refine blk_drewN ?_ _ | refine blk_drew ?_ | refine blk_alloc ?_ _)); refine blk_far ?_ NB163_161.out _; (with_reducible repeat (first | refine blk_drewN ?_ _ | refine blk_drew ?_ | refine blk_alloc ?_ _)); refine blk_far ?_ NB163_161.out _; (with_reducible repeat (first | refine blk_drewN ?_ _ | refine blk_drew ?_ | refine blk_alloc ?_ _)); refine blk_far ?_ NB163_161.out _; (with_reducible repeat (first | refine blk_drewN ?_ _ | refine blk_drew ?_ | refine blk_alloc ?_ _)); exact BK163.out))⟩; have n4_ : Aside0 (Below w.heap.size w w2007) := ⟨(by rw [hw]; exact wB)⟩; clear hw; clear HO170; clear BK161; clear BK162; clear BK163; clear HB; have HO170 := n0_; have BK161 := n1_; have BK162 := n2_; have BK163 := n3_; have HB := n4_; clear n0_ n1_ n2_ n3_ n4_))
 go_loopg [7] kj2 (fun kq v7 w' => ∃ (x7_2 : Int) (x162002_2 : List (S85)) (x163000_2 : Int) (x163001_2 : Int) (x164000_2 : Int) (x164001_2 : Int) (x164002_2 : Int) (x164003_2 : Int) (x164004_2 : Bool) (x164005_2 : Bool) (u162002 : Value), v7 = .int .i64 x7_2 ∧ Aside0 (spec_BoardAgain.l0 kq a1 x7_2 t166 t167 x162002_2 = some (r1, r2, r3, r4, r5, r6, r7, r8, r9, r10)) ∧ Aside0 (kq ≤ kj2) ∧ Aside0 (Kd.R k85 85 w' w.heap.size (fun k_ => k_ ≠ gb163) u162002 x162002_2) ∧ Aside0 (w'.heap[gb161]? = some (.cells #[.int .i64 t166, .int .i64 t167, u162002] 63 (0, 0))) ∧ Aside0 (w'.heap[gb162]? = some (.cells #[.int .i64 x163000_2, .int .i64 x163001_2, (.slice none 0 0)] 63 (0, 0))) ∧ Aside0 (w'.heap[gb163]? = some (.cells #[.int .i64 x164000_2, .int .i64 x164001_2, .int .i64 x164002_2, .int .i64 x164003_2, .bool x164004_2, .bool x164005_2] 85 (0, 0))) ∧ Aside0 (Below w.heap.size w w'))
 case atStart => exact ⟨(0), (t168), (0), (0), (0), (0), (0), (0), (false), (false), (.slice Ao2006 t168.length co2006), (by first | rfl | (simp; done) | (simp [*]; done)), H', ⟨Nat.le_refl _⟩, ⟨Rh HO170⟩, ⟨Bh BK161⟩, ⟨Bh BK162⟩, ⟨Bh BK163⟩, ⟨wB⟩⟩
 case round => (
 clear H'
 try clear c0
 try clear c1005
 try clear c1007
 try clear hcz2003_0 hcz2003_1 hcz2003_2 hfz2003_0 hfz2003_1 hfz2003_2
 try clear hcz2005_0 hcz2005_1 hcz2005_2 hfz2005_0 hfz2005_1 hfz2005_2
 try clear hcz2006_0 hcz2006_1 hcz2006_2 hcz2006_3 hcz2006_4 hcz2006_5 hfz2006_0 hfz2006_1 hfz2006_2 hfz2006_3 hfz2006_4 hfz2006_5
 obtain ⟨x7_2, x162002_2, x163000_2, x163001_2, x164000_2, x164001_2, x164002_2, x164003_2, x164004_2, x164005_2, u162002, rfl, HA, HK2, HO_162002, BK161, BK162, BK163, HB⟩ := hrel
 cases gk with
 | zero => exact absurd HA.out (by simp [spec_BoardAgain.l0])
 | succ k2 => {
 have H := HA.out
 clear HA
 simp only [spec_BoardAgain.l0] at H
 by_cases c2008 : x7_2 < (x162002_2.length : Int)
 rw [if_pos c2008] at H
 have c2008b0 : decide (x7_2 < (x162002_2.length : Int)) = true := decide_eq_true c2008
 clear c2008
 by_cases c2009 : 0 ≤ x7_2
 rw [if_pos c2009] at H
 have c2009b0 : decide (0 ≤ x7_2) = true := decide_eq_true c2009
 clear c2009
 obtain ⟨bq2010, hbq2010⟩ : ∃ b_ : Bool, b_ = ((rd_T85 x162002_2 x7_2).f5) := ⟨_, rfl⟩
 replace H : (if bq2010 = true then ((spec_l14Min.f (wrap64 (((rd_T85 x162002_2 x7_2).f3) + 1)) 1000000).bind fun t173 => (some (t166, t167, (x162002_2.set (x7_2 : Int).toNat (⟨(rd_T85 x162002_2 x7_2).f0, (rd_T85 x162002_2 x7_2).f1, a1, t173, (rd_T85 x162002_2 x7_2).f4, false⟩ : S85)), (rd_T85 x162002_2 x7_2).f0, (rd_T85 x162002_2 x7_2).f1, a1, t173, (rd_T85 x162002_2 x7_2).f4, false, 0))) else (spec_BoardAgain.l0 k2 a1 (wrap64 (x7_2 + 1)) t166 t167 x162002_2)) = some (r1, r2, r3, r4, r5, r6, r7, r8, r9, r10) := by rw [← hbq2010] at H; exact H
 have Nbq2010 := Aside0.mk hbq2010
 clear hbq2010
 by_cases c2011 : bq2010 = true
 subst c2011
 have H1 : ((spec_l14Min.f (wrap64 (((rd_T85 x162002_2 x7_2).f3) + 1)) 1000000).bind fun t173 => (some (t166, t167, (x162002_2.set (x7_2 : Int).toNat (⟨(rd_T85 x162002_2 x7_2).f0, (rd_T85 x162002_2 x7_2).f1, a1, t173, (rd_T85 x162002_2 x7_2).f4, false⟩ : S85)), (rd_T85 x162002_2 x7_2).f0, (rd_T85 x162002_2 x7_2).f1, a1, t173, (rd_T85 x162002_2 x7_2).f4, false, 0))) = some (r1, r2, r3, r4, r5, r6, r7, r8, r9, r10) := by rw [if_pos rfl] at H; exact H
 clear H
 have H := H1
 clear H1
 replace H := Option.bind_eq_some_iff.mp H
 obtain ⟨t173, A20120, H⟩ := H
 replace H : (some (t166, t167, (x162002_2.set (x7_2 : Int).toNat (⟨(rd_T85 x162002_2 x7_2).f0, (rd_T85 x162002_2 x7_2).f1, a1, t173, (rd_T85 x162002_2 x7_2).f4, false⟩ : S85)), (rd_T85 x162002_2 x7_2).f0, (rd_T85 x162002_2 x7_2).f1, a1, t173, (rd_T85 x162002_2 x7_2).f4, false, 0)) = some (r1, r2, r3, r4, r5, r6, r7, r8, r9, r10) := H
 have A2012 := Aside0.mk A20120
 clear A20120
 obtain ⟨y174, hy174⟩ : ∃ y_ : List (S85), y_ = (x162002_2.set (x7_2 : Int).toNat (⟨(rd_T85 x162002_2 x7_2).f0, (rd_T85 x162002_2 x7_2).f1, a1, t173, (rd_T85 x162002_2 x7_2).f4, false⟩ : S85)) := ⟨_, rfl⟩
 replace H : (some (t166, t167, y174, (rd_T85 x162002_2 x7_2).f0, (rd_T85 x162002_2 x7_2).f1, a1, t173, (rd_T85 x162002_2 x7_2).f4, false, 0)) = some (r1, r2, r3, r4, r5, r6, r7, r8, r9, r10) := by first | (rw [hy174]; with_reducible exact H) | (have H2_ := (Option.bind_some _ _).symm.trans H; rw [hy174]; with_reducible exact H2_) | (have H2_ := (Option.bind_some _ _).symm.trans H; with_reducible exact H2_) | with_reducible exact H | (rw [hy174]; exact H) | exact H
 have Ny174 := Aside0.mk hy174
 clear hy174
 simp only [Option.some.injEq, Prod.mk.injEq] at H
 obtain ⟨rfl, rfl, rfl, rfl, rfl, rfl, rfl, rfl, rfl, rfl⟩ := H
 have bq1_ : True := trivial
 rotate_left
 replace c2011 := Bool.eq_false_iff.mpr c2011
 subst c2011
 have H1 : (spec_BoardAgain.l0 k2 a1 (wrap64 (x7_2 + 1)) t166 t167 x162002_2) = some (r1, r2, r3, r4, r5, r6, r7, r8, r9, r10) := by rw [if_neg (show ¬ (false = true) by decide)] at H; exact H
 clear H
 have H := H1
 clear H1
 have H' := Aside0.mk H
 clear H
 rotate_left
 rw [if_neg c2009] at H
 exact absurd H (by simp)
 rw [if_neg c2008] at H
 have c2008b0 : decide (x7_2 < (x162002_2.length : Int)) = false := decide_eq_false c2008
 clear c2008
 simp only [Option.some.injEq, Prod.mk.injEq] at H
 obtain ⟨rfl, rfl, rfl, rfl, rfl, rfl, rfl, rfl, rfl, rfl⟩ := H
 rotate_left
 all_goals (
 have hnb3001 := NB161_162.out
 have hnc3001 := NB162_161.out
 have hnb3002 := NB161_163.out
 have hnc3002 := NB163_161.out
 obtain ⟨⟨hcz3003_0, hcz3003_1, hcz3003_2⟩, hfz3003_0, hfz3003_1, hfz3003_2⟩ := cells3 BK161.out
 obtain ⟨Ao3004, co3004, eo3004⟩ := Kd.R_slice HO_162002.out
 subst eo3004
 )
 iterate 2 (
 focus (
 have p171 : 0 ≤ (x7_2 : Int) := of_decide_eq_true (by first | (with_reducible assumption) | assumption)
 have q171 : x7_2 < (x162002_2.length : Int) := of_decide_eq_true (by first | (with_reducible assumption) | assumption)
 obtain ⟨ad171, e171, hx171_0, hx171_1, hx171_2, hx171_3, hx171_4, hx171_5⟩ := at_T85 (Kd.R_reads' HO_162002.out).2.2 x7_2 p171 q171
 (try rw [← Nbq2010.out] at hx171_4)
 (try rw [← Nbq2010.out] at hx171_5)
 cases e171
 replace p171 := eq_true p171
 replace q171 := eq_true q171
 try go_wp2_with (first | ((with_reducible refine gate_dst (N := 8) rfl ?_); refine box_event ?hg (N := 8) ?hd (cs := #[.int .i64 0, .int .i64 0, .int .i64 0, .int .i64 0, .bool false, .bool false]) (t := 85) ?hr ?_; (case hd => rfl); (case hg => rfl); (case hr => first | (go_simp; done) | (go_simp; rfl)); intro gb172 hg w3005 hbox hb; have n0_ := Aside0.mk (Kd.R_below (Kd.R_elderB (Rh HO_162002) gb172 (Nat.le_of_eq hg.symm)) hb); have n1_ := Aside0.mk (blk_below (Bh BK161) hb); have n2_ := Aside0.mk (blk_below (Bh BK162) hb); have n3_ := Aside0.mk (blk_below (Bh BK163) hb); have n4_ := Aside0.mk (below_step wB hb); have n5_ := Aside0.mk (hbox); have n6_ := Aside0.mk ((by rw [hg]; exact (below_size wB) : w.heap.size ≤ gb172)); have n7_ := Aside0.mk ((by rw [hg]; exact (below_size wB) : w.heap.size ≤ gb172)); have n8_ := Aside0.mk ((by rw [hg]; exact Nat.ne_of_lt (blk_lt (Bh BK161)) : gb161 ≠ gb172)); have n9_ := Aside0.mk ((by rw [hg]; exact Nat.ne_of_gt (blk_lt (Bh BK161)) : gb172 ≠ gb161)); have n10_ := Aside0.mk ((by rw [hg]; exact Nat.ne_of_lt (blk_lt (Bh BK162)) : gb162 ≠ gb172)); have n11_ := Aside0.mk ((by rw [hg]; exact Nat.ne_of_gt (blk_lt (Bh BK162)) : gb172 ≠ gb162)); have n12_ := Aside0.mk ((by rw [hg]; exact Nat.ne_of_lt (blk_lt (Bh BK163)) : gb163 ≠ gb172)); have n13_ := Aside0.mk ((by rw [hg]; exact Nat.ne_of_gt (blk_lt (Bh BK163)) : gb172 ≠ gb163)); clear HO_162002; clear BK161; clear BK162; clear BK163; clear HB; have HO_162002 := n0_; have BK161 := n1_; have BK162 := n2_; have BK163 := n3_; have HB := n4_; have BK172 := n5_; have GW172 := n6_; have GE172 := n7_; have NB161_172 := n8_; have NB172_161 := n9_; have NB162_172 := n10_; have NB172_162 := n11_; have NB163_172 := n12_; have NB172_163 := n13_; clear n0_ n1_ n2_ n3_ n4_ n5_ n6_ n7_ n8_ n9_ n10_ n11_ n12_ n13_; clear hb hbox hg; have hnb3006 := NB172_161.out; have hnc3006 := NB161_172.out; have hnb3007 := NB172_162.out; have hnc3007 := NB162_172.out; have hnb3008 := NB172_163.out; have hnc3008 := NB163_172.out; obtain ⟨⟨hcz3009_0, hcz3009_1, hcz3009_2, hcz3009_3, hcz3009_4, hcz3009_5⟩, hfz3009_0, hfz3009_1, hfz3009_2, hfz3009_3, hfz3009_4, hfz3009_5⟩ := cells6 BK172.out) | ((with_reducible refine gate_store (t := 85) (p := 8) rfl ?_); (try (rw [drewN_self w3005]; generalize hq_ : World.drewN w3005 _ = w3005; have n0_ := Aside0.mk (Kd.R_at hq_ HO_162002.out); have n1_ := Aside0.mk (blk_at hq_ BK161.out); have n2_ := Aside0.mk (blk_at hq_ BK162.out); have n3_ := Aside0.mk (blk_at hq_ BK163.out); have n4_ := Aside0.mk (blk_at hq_ BK172.out); have n5_ := Aside0.mk (below_at hq_ HB.out); clear hq_ HO_162002 BK161 BK162 BK163 BK172 HB; have HO_162002 := n0_; have BK161 := n1_; have BK162 := n2_; have BK163 := n3_; have BK172 := n4_; have HB := n5_; clear n0_ n1_ n2_ n3_ n4_ n5_; (try (obtain ⟨⟨hcyBK161_0, hcyBK161_1, hcyBK161_2⟩, hfyBK161_0, hfyBK161_1, hfyBK161_2⟩ := cells3 BK161.out)); (try (obtain ⟨⟨hcyBK162_0, hcyBK162_1, hcyBK162_2⟩, hfyBK162_0, hfyBK162_1, hfyBK162_2⟩ := cells3 BK162.out)); (try (obtain ⟨⟨hcyBK163_0, hcyBK163_1, hcyBK163_2, hcyBK163_3, hcyBK163_4, hcyBK163_5⟩, hfyBK163_0, hfyBK163_1, hfyBK163_2, hfyBK163_3, hfyBK163_4, hfyBK163_5⟩ := cells6 BK163.out)); (try (obtain ⟨⟨hcyBK172_0, hcyBK172_1, hcyBK172_2, hcyBK172_3, hcyBK172_4, hcyBK172_5⟩, hfyBK172_0, hfyBK172_1, hfyBK172_2, hfyBK172_3, hfyBK172_4, hfyBK172_5⟩ := cells6 BK172.out)))); refine store_event (t := 85) (p := 8) (v := ?_) (w1 := ((((((w3005.setCell ⟨gb172, 0, none⟩ (.int .i64 ((rd_T85 x162002_2 x7_2).f0))).setCell ⟨gb172, 1, none⟩ (.int .i64 ((rd_T85 x162002_2 x7_2).f1))).setCell ⟨gb172, 2, none⟩ (.int .i64 ((rd_T85 x162002_2 x7_2).f2))).setCell ⟨gb172, 3, none⟩ (.int .i64 ((rd_T85 x162002_2 x7_2).f3))).setCell ⟨gb172, 4, none⟩ (.bool ((rd_T85 x162002_2 x7_2).f4))).setCell ⟨gb172, 5, none⟩ (.bool (by first | (clear bq1_; exact true) | exact false)))) ?hg ?ho ?hn ?hr ?_; (case ho => rfl); (case hg => rfl); (case hn => rfl); (case hr => first | (go_simp; done) | (go_simp; rfl)); intro w3010 hw; have n0_ : Aside0 (Kd.R k85 85 w3010 w.heap.size (fun k_ => k_ ≠ gb163 ∧ k_ ≠ gb172) (.slice (some ad171) x162002_2.length co3004) x162002_2) := ⟨(by rw [hw]; exact (by (with_reducible repeat (first | apply Kd.R_alloc | apply Kd.R_drewN | apply Kd.R_drew)); exact Kd.R_mono (Kd.R_far (p := ⟨gb172, 5, none⟩) (Kd.R_far (p := ⟨gb172, 4, none⟩) (Kd.R_far (p := ⟨gb172, 3, none⟩) (Kd.R_far (p := ⟨gb172, 2, none⟩) (Kd.R_far (p := ⟨gb172, 1, none⟩) (Kd.R_far (p := ⟨gb172, 0, none⟩) (Kd.R_mono HO_162002.out (fun k_ hk => (⟨hk, hk.2⟩ : _ ∧ k_ ≠ gb172))) (fun _ hk => hk.2) (.int .i64 ((rd_T85 x162002_2 x7_2).f0))) (fun _ hk => hk.2) (.int .i64 ((rd_T85 x162002_2 x7_2).f1))) (fun _ hk => hk.2) (.int .i64 ((rd_T85 x162002_2 x7_2).f2))) (fun _ hk => hk.2) (.int .i64 ((rd_T85 x162002_2 x7_2).f3))) (fun _ hk => hk.2) (.bool ((rd_T85 x162002_2 x7_2).f4))) (fun _ hk => hk.2) (.bool _)) (fun _ hk => ⟨hk.1.1, hk.1.2⟩)))⟩; have n1_ : Aside0 (w3010.heap[gb161]? = some (.cells #[.int .i64 t166, .int .i64 t167, .slice (some ad171) x162002_2.length co3004] 63 (0, 0))) := ⟨(by rw [hw]; exact (by (with_reducible repeat (first | refine blk_drewN ?_ _ | refine blk_drew ?_ | refine blk_alloc ?_ _)); refine blk_far ?_ NB161_172.out _; (with_reducible repeat (first | refine blk_drewN ?_ _ | refine blk_drew ?_ | refine blk_alloc ?_ _)); refine blk_far ?_ NB161_172.out _; (with_reducible repeat (first | refine blk_drewN ?_ _ | refine blk_drew ?_ | refine blk_alloc ?_ _)); refine blk_far ?_ NB161_172.out _; (with_reducible repeat (first | refine blk_drewN ?_ _ | refine blk_drew ?_ | refine blk_alloc ?_ _)); refine blk_far ?_ NB161_172.out _; (with_reducible repeat (first | refine blk_drewN ?_ _ | refine blk_drew ?_ | refine blk_alloc ?_ _)); refine blk_far ?_ NB161_172.out _; (with_reducible repeat (first | refine blk_drewN ?_ _ | refine blk_drew ?_ | refine blk_alloc ?_ _)); refine blk_far ?_ NB161_172.out _; (with_reducible repeat (first | refine blk_drewN ?_ _ | refine blk_drew ?_ | refine blk_alloc ?_ _)); exact BK161.out))⟩; have n2_ : Aside0 (w3010.heap[gb162]? = some (.cells #[.int .i64 x163000_2, .int .i64 x163001_2, .slice none 0 0] 63 (0, 0))) := ⟨(by rw [hw]; exact (by (with_reducible repeat (first | refine blk_drewN ?_ _ | refine blk_drew ?_ | refine blk_alloc ?_ _)); refine blk_far ?_ NB162_172.out _; (with_reducible repeat (first | refine blk_drewN ?_ _ | refine blk_drew ?_ | refine blk_alloc ?_ _)); refine blk_far ?_ NB162_172.out _; (with_reducible repeat (first | refine blk_drewN ?_ _ | refine blk_drew ?_ | refine blk_alloc ?_ _)); refine blk_far ?_ NB162_172.out _; (with_reducible repeat (first | refine blk_drewN ?_ _ | refine blk_drew ?_ | refine blk_alloc ?_ _)); refine blk_far ?_ NB162_172.out _; (with_reducible repeat (first | refine blk_drewN ?_ _ | refine blk_drew ?_ | refine blk_alloc ?_ _)); refine blk_far ?_ NB162_172.out _; (with_reducible repeat (first | refine blk_drewN ?_ _ | refine blk_drew ?_ | refine blk_alloc ?_ _)); refine blk_far ?_ NB162_172.out _; (with_reducible repeat (first | refine blk_drewN ?_ _ | refine blk_drew ?_ | refine blk_alloc ?_ _)); exact BK162.out))⟩; have n3_ : Aside0 (w3010.heap[gb163]? = some (.cells #[.int .i64 x164000_2, .int .i64 x164001_2, .int .i64 x164002_2, .int .i64 x164003_2, .bool x164004_2, .bool x164005_2] 85 (0, 0))) := ⟨(by rw [hw]; exact (by (with_reducible repeat (first | refine blk_drewN ?_ _ | refine blk_drew ?_ | refine blk_alloc ?_ _)); refine blk_far ?_ NB163_172.out _; (with_reducible repeat (first | refine blk_drewN ?_ _ | refine blk_drew ?_ | refine blk_alloc ?_ _)); refine blk_far ?_ NB163_172.out _; (with_reducible repeat (first | refine blk_drewN ?_ _ | refine blk_drew ?_ | refine blk_alloc ?_ _)); refine blk_far ?_ NB163_172.out _; (with_reducible repeat (first | refine blk_drewN ?_ _ | refine blk_drew ?_ | refine blk_alloc ?_ _)); refine blk_far ?_ NB163_172.out _; (with_reducible repeat (first | refine blk_drewN ?_ _ | refine blk_drew ?_ | refine blk_alloc ?_ _)); refine blk_far ?_ NB163_172.out _; (with_reducible repeat (first | refine blk_drewN ?_ _ | refine blk_drew ?_ | refine blk_alloc ?_ _)); refine blk_far ?_ NB163_172.out _; (with_reducible repeat (first | refine blk_drewN ?_ _ | refine blk_drew ?_ | refine blk_alloc ?_ _)); exact BK163.out))⟩; have n4_ : Aside0 (w3010.heap[gb172]? = some (.cells #[.int .i64 ((rd_T85 x162002_2 x7_2).f0), .int .i64 ((rd_T85 x162002_2 x7_2).f1), .int .i64 ((rd_T85 x162002_2 x7_2).f2), .int .i64 ((rd_T85 x162002_2 x7_2).f3), .bool ((rd_T85 x162002_2 x7_2).f4), .bool (by first | (clear bq1_; exact true) | exact false)] 85 (0, 0))) := ⟨(by rw [hw]; exact (by (with_reducible repeat (first | refine blk_drewN ?_ _ | refine blk_drew ?_ | refine blk_alloc ?_ _)); refine blk_put (cs := #[.int .i64 ((rd_T85 x162002_2 x7_2).f0), .int .i64 ((rd_T85 x162002_2 x7_2).f1), .int .i64 ((rd_T85 x162002_2 x7_2).f2), .int .i64 ((rd_T85 x162002_2 x7_2).f3), .bool ((rd_T85 x162002_2 x7_2).f4), .bool false]) ?_ 5 _ rfl; (with_reducible repeat (first | refine blk_drewN ?_ _ | refine blk_drew ?_ | refine blk_alloc ?_ _)); refine blk_put (cs := #[.int .i64 ((rd_T85 x162002_2 x7_2).f0), .int .i64 ((rd_T85 x162002_2 x7_2).f1), .int .i64 ((rd_T85 x162002_2 x7_2).f2), .int .i64 ((rd_T85 x162002_2 x7_2).f3), .bool false, .bool false]) ?_ 4 _ rfl; (with_reducible repeat (first | refine blk_drewN ?_ _ | refine blk_drew ?_ | refine blk_alloc ?_ _)); refine blk_put (cs := #[.int .i64 ((rd_T85 x162002_2 x7_2).f0), .int .i64 ((rd_T85 x162002_2 x7_2).f1), .int .i64 ((rd_T85 x162002_2 x7_2).f2), .int .i64 0, .bool false, .bool false]) ?_ 3 _ rfl; (with_reducible repeat (first | refine blk_drewN ?_ _ | refine blk_drew ?_ | refine blk_alloc ?_ _)); refine blk_put (cs := #[.int .i64 ((rd_T85 x162002_2 x7_2).f0), .int .i64 ((rd_T85 x162002_2 x7_2).f1), .int .i64 0, .int .i64 0, .bool false, .bool false]) ?_ 2 _ rfl; (with_reducible repeat (first | refine blk_drewN ?_ _ | refine blk_drew ?_ | refine blk_alloc ?_ _)); refine blk_put (cs := #[.int .i64 ((rd_T85 x162002_2 x7_2).f0), .int .i64 0, .int .i64 0, .int .i64 0, .bool false, .bool false]) ?_ 1 _ rfl; (with_reducible repeat (first | refine blk_drewN ?_ _ | refine blk_drew ?_ | refine blk_alloc ?_ _)); refine blk_put (cs := #[.int .i64 0, .int .i64 0, .int .i64 0, .int .i64 0, .bool false, .bool false]) ?_ 0 _ rfl; (with_reducible repeat (first | refine blk_drewN ?_ _ | refine blk_drew ?_ | refine blk_alloc ?_ _)); exact BK172.out))⟩; have n5_ : Aside0 (Below w.heap.size w w3010) := ⟨(by rw [hw]; exact wB)⟩; clear hw; clear HO_162002; clear BK161; clear BK162; clear BK163; clear BK172; clear HB; have HO_162002 := n0_; have BK161 := n1_; have BK162 := n2_; have BK163 := n3_; have BK172 := n4_; have HB := n5_; clear n0_ n1_ n2_ n3_ n4_ n5_; obtain ⟨⟨hcz3011_0, hcz3011_1, hcz3011_2, hcz3011_3, hcz3011_4, hcz3011_5⟩, hfz3011_0, hfz3011_1, hfz3011_2, hfz3011_3, hfz3011_4, hfz3011_5⟩ := cells6 BK172.out) | ((with_reducible refine gate_store (t := 4) (p := 35) rfl ?_); (try (rw [drewN_self w3010]; generalize hq_ : World.drewN w3010 _ = w3010; have n0_ := Aside0.mk (Kd.R_at hq_ HO_162002.out); have n1_ := Aside0.mk (blk_at hq_ BK161.out); have n2_ := Aside0.mk (blk_at hq_ BK162.out); have n3_ := Aside0.mk (blk_at hq_ BK163.out); have n4_ := Aside0.mk (blk_at hq_ BK172.out); have n5_ := Aside0.mk (below_at hq_ HB.out); clear hq_ HO_162002 BK161 BK162 BK163 BK172 HB; have HO_162002 := n0_; have BK161 := n1_; have BK162 := n2_; have BK163 := n3_; have BK172 := n4_; have HB := n5_; clear n0_ n1_ n2_ n3_ n4_ n5_; (try (obtain ⟨⟨hcyBK161_0, hcyBK161_1, hcyBK161_2⟩, hfyBK161_0, hfyBK161_1, hfyBK161_2⟩ := cells3 BK161.out)); (try (obtain ⟨⟨hcyBK162_0, hcyBK162_1, hcyBK162_2⟩, hfyBK162_0, hfyBK162_1, hfyBK162_2⟩ := cells3 BK162.out)); (try (obtain ⟨⟨hcyBK163_0, hcyBK163_1, hcyBK163_2, hcyBK163_3, hcyBK163_4, hcyBK163_5⟩, hfyBK163_0, hfyBK163_1, hfyBK163_2, hfyBK163_3, hfyBK163_4, hfyBK163_5⟩ := cells6 BK163.out)); (try (obtain ⟨⟨hcyBK172_0, hcyBK172_1, hcyBK172_2, hcyBK172_3, hcyBK172_4, hcyBK172_5⟩, hfyBK172_0, hfyBK172_1, hfyBK172_2, hfyBK172_3, hfyBK172_4, hfyBK172_5⟩ := cells6 BK172.out)))); refine store_event (t := 4) (p := 35) (v := ?_) (w1 := (w3010.setCell ⟨gb172, 5, none⟩ (.bool false))) ?hg ?ho ?hn ?hr ?_; (case ho => rfl); (case hg => rfl); (case hn => rfl); (case hr => first | (go_simp; done) | (go_simp; rfl)); intro w3012 hw; have n0_ : Aside0 (Kd.R k85 85 w3012 w.heap.size (fun k_ => k_ ≠ gb163 ∧ k_ ≠ gb172) (.slice (some ad171) x162002_2.length co3004) x162002_2) := ⟨(by rw [hw]; exact (by (with_reducible repeat (first | apply Kd.R_alloc | apply Kd.R_drewN | apply Kd.R_drew)); exact Kd.R_mono (Kd.R_far (p := ⟨gb172, 5, none⟩) (Kd.R_mono HO_162002.out (fun k_ hk => (⟨hk, hk.2⟩ : _ ∧ k_ ≠ gb172))) (fun _ hk => hk.2) (.bool false)) (fun _ hk => ⟨hk.1.1, hk.1.2⟩)))⟩; have n1_ : Aside0 (w3012.heap[gb161]? = some (.cells #[.int .i64 t166, .int .i64 t167, .slice (some ad171) x162002_2.length co3004] 63 (0, 0))) := ⟨(by rw [hw]; exact (by (with_reducible repeat (first | refine blk_drewN ?_ _ | refine blk_drew ?_ | refine blk_alloc ?_ _)); refine blk_far ?_ NB161_172.out _; (with_reducible repeat (first | refine blk_drewN ?_ _ | refine blk_drew ?_ | refine blk_alloc ?_ _)); exact BK161.out))⟩; have n2_ : Aside0 (w3012.heap[gb162]? = some (.cells #[.int .i64 x163000_2, .int .i64 x163001_2, .slice none 0 0] 63 (0, 0))) := ⟨(by rw [hw]; exact (by (with_reducible repeat (first | refine blk_drewN ?_ _ | refine blk_drew ?_ | refine blk_alloc ?_ _)); refine blk_far ?_ NB162_172.out _; (with_reducible repeat (first | refine blk_drewN ?_ _ | refine blk_drew ?_ | refine blk_alloc ?_ _)); exact BK162.out))⟩; have n3_ : Aside0 (w3012.heap[gb163]? = some (.cells #[.int .i64 x164000_2, .int .i64 x164001_2, .int .i64 x164002_2, .int .i64 x164003_2, .bool x164004_2, .bool x164005_2] 85 (0, 0))) := ⟨(by rw [hw]; exact (by (with_reducible repeat (first | refine blk_drewN ?_ _ | refine blk_drew ?_ | refine blk_alloc ?_ _)); refine blk_far ?_ NB163_172.out _; (with_reducible repeat (first | refine blk_drewN ?_ _ | refine blk_drew ?_ | refine blk_alloc ?_ _)); exact BK163.out))⟩; have n4_ : Aside0 (w3012.heap[gb172]? = some (.cells #[.int .i64 ((rd_T85 x162002_2 x7_2).f0), .int .i64 ((rd_T85 x162002_2 x7_2).f1), .int .i64 ((rd_T85 x162002_2 x7_2).f2), .int .i64 ((rd_T85 x162002_2 x7_2).f3), .bool ((rd_T85 x162002_2 x7_2).f4), .bool false] 85 (0, 0))) := ⟨(by rw [hw]; exact (by (with_reducible repeat (first | refine blk_drewN ?_ _ | refine blk_drew ?_ | refine blk_alloc ?_ _)); refine blk_put (cs := #[.int .i64 ((rd_T85 x162002_2 x7_2).f0), .int .i64 ((rd_T85 x162002_2 x7_2).f1), .int .i64 ((rd_T85 x162002_2 x7_2).f2), .int .i64 ((rd_T85 x162002_2 x7_2).f3), .bool ((rd_T85 x162002_2 x7_2).f4), .bool true]) ?_ 5 _ rfl; (with_reducible repeat (first | refine blk_drewN ?_ _ | refine blk_drew ?_ | refine blk_alloc ?_ _)); exact BK172.out))⟩; have n5_ : Aside0 (Below w.heap.size w w3012) := ⟨(by rw [hw]; exact wB)⟩; clear hw; clear HO_162002; clear BK161; clear BK162; clear BK163; clear BK172; clear HB; have HO_162002 := n0_; have BK161 := n1_; have BK162 := n2_; have BK163 := n3_; have BK172 := n4_; have HB := n5_; clear n0_ n1_ n2_ n3_ n4_ n5_; obtain ⟨⟨hcz3013_0, hcz3013_1, hcz3013_2, hcz3013_3, hcz3013_4, hcz3013_5⟩, hfz3013_0, hfz3013_1, hfz3013_2, hfz3013_3, hfz3013_4, hfz3013_5⟩ := cells6 BK172.out) | ((with_reducible refine gate_store (t := 2) (p := 37) rfl ?_); (try (rw [drewN_self w3012]; generalize hq_ : World.drewN w3012 _ = w3012; have n0_ := Aside0.mk (Kd.R_at hq_ HO_162002.out); have n1_ := Aside0.mk (blk_at hq_ BK161.out); have n2_ := Aside0.mk (blk_at hq_ BK162.out); have n3_ := Aside0.mk (blk_at hq_ BK163.out); have n4_ := Aside0.mk (blk_at hq_ BK172.out); have n5_ := Aside0.mk (below_at hq_ HB.out); clear hq_ HO_162002 BK161 BK162 BK163 BK172 HB; have HO_162002 := n0_; have BK161 := n1_; have BK162 := n2_; have BK163 := n3_; have BK172 := n4_; have HB := n5_; clear n0_ n1_ n2_ n3_ n4_ n5_; (try (obtain ⟨⟨hcyBK161_0, hcyBK161_1, hcyBK161_2⟩, hfyBK161_0, hfyBK161_1, hfyBK161_2⟩ := cells3 BK161.out)); (try (obtain ⟨⟨hcyBK162_0, hcyBK162_1, hcyBK162_2⟩, hfyBK162_0, hfyBK162_1, hfyBK162_2⟩ := cells3 BK162.out)); (try (obtain ⟨⟨hcyBK163_0, hcyBK163_1, hcyBK163_2, hcyBK163_3, hcyBK163_4, hcyBK163_5⟩, hfyBK163_0, hfyBK163_1, hfyBK163_2, hfyBK163_3, hfyBK163_4, hfyBK163_5⟩ := cells6 BK163.out)); (try (obtain ⟨⟨hcyBK172_0, hcyBK172_1, hcyBK172_2, hcyBK172_3, hcyBK172_4, hcyBK172_5⟩, hfyBK172_0, hfyBK172_1, hfyBK172_2, hfyBK172_3, hfyBK172_4, hfyBK172_5⟩ := cells6 BK172.out)))); refine store_event (t := 2) (p := 37) (v := ?_) (w1 := (w3012.setCell ⟨gb172, 2, none⟩ (.int .i64 a1))) ?hg ?ho ?hn ?hr ?_; (case ho => rfl); (case hg => rfl); (case hn => rfl); (case hr => first | (go_simp; done) | (go_simp; rfl)); intro w3014 hw; have n0_ : Aside0 (Kd.R k85 85 w3014 w.heap.size (fun k_ => k_ ≠ gb163 ∧ k_ ≠ gb172) (.slice (some ad171) x162002_2.length co3004) x162002_2) := ⟨(by rw [hw]; exact (by (with_reducible repeat (first | apply Kd.R_alloc | apply Kd.R_drewN | apply Kd.R_drew)); exact Kd.R_mono (Kd.R_far (p := ⟨gb172, 2, none⟩) (Kd.R_mono HO_162002.out (fun k_ hk => (⟨hk, hk.2⟩ : _ ∧ k_ ≠ gb172))) (fun _ hk => hk.2) (.int .i64 a1)) (fun _ hk => ⟨hk.1.1, hk.1.2⟩)))⟩; have n1_ : Aside0 (w3014.heap[gb161]? = some (.cells #[.int .i64 t166, .int .i64 t167, .slice (some ad171) x162002_2.length co3004] 63 (0, 0))) := ⟨(by rw [hw]; exact (by (with_reducible repeat (first | refine blk_drewN ?_ _ | refine blk_drew ?_ | refine blk_alloc ?_ _)); refine blk_far ?_ NB161_172.out _; (with_reducible repeat (first | refine blk_drewN ?_ _ | refine blk_drew ?_ | refine blk_alloc ?_ _)); exact BK161.out))⟩; have n2_ : Aside0 (w3014.heap[gb162]? = some (.cells #[.int .i64 x163000_2, .int .i64 x163001_2, .slice none 0 0] 63 (0, 0))) := ⟨(by rw [hw]; exact (by (with_reducible repeat (first | refine blk_drewN ?_ _ | refine blk_drew ?_ | refine blk_alloc ?_ _)); refine blk_far ?_ NB162_172.out _; (with_reducible repeat (first | refine blk_drewN ?_ _ | refine blk_drew ?_ | refine blk_alloc ?_ _)); exact BK162.out))⟩; have n3_ : Aside0 (w3014.heap[gb163]? = some (.cells #[.int .i64 x164000_2, .int .i64 x164001_2, .int .i64 x164002_2, .int .i64 x164003_2, .bool x164004_2, .bool x164005_2] 85 (0, 0))) := ⟨(by rw [hw]; exact (by (with_reducible repeat (first | refine blk_drewN ?_ _ | refine blk_drew ?_ | refine blk_alloc ?_ _)); refine blk_far ?_ NB163_172.out _; (with_reducible repeat (first | refine blk_drewN ?_ _ | refine blk_drew ?_ | refine blk_alloc ?_ _)); exact BK163.out))⟩; have n4_ : Aside0 (w3014.heap[gb172]? = some (.cells #[.int .i64 ((rd_T85 x162002_2 x7_2).f0), .int .i64 ((rd_T85 x162002_2 x7_2).f1), .int .i64 a1, .int .i64 ((rd_T85 x162002_2 x7_2).f3), .bool ((rd_T85 x162002_2 x7_2).f4), .bool false] 85 (0, 0))) := ⟨(by rw [hw]; exact (by (with_reducible repeat (first | refine blk_drewN ?_ _ | refine blk_drew ?_ | refine blk_alloc ?_ _)); refine blk_put (cs := #[.int .i64 ((rd_T85 x162002_2 x7_2).f0), .int .i64 ((rd_T85 x162002_2 x7_2).f1), .int .i64 ((rd_T85 x162002_2 x7_2).f2), .int .i64 ((rd_T85 x162002_2 x7_2).f3), .bool ((rd_T85 x162002_2 x7_2).f4), .bool false]) ?_ 2 _ rfl; (with_reducible repeat (first | refine blk_drewN ?_ _ | refine blk_drew ?_ | refine blk_alloc ?_ _)); exact BK172.out))⟩; have n5_ : Aside0 (Below w.heap.size w w3014) := ⟨(by rw [hw]; exact wB)⟩; clear hw; clear HO_162002; clear BK161; clear BK162; clear BK163; clear BK172; clear HB; have HO_162002 := n0_; have BK161 := n1_; have BK162 := n2_; have BK163 := n3_; have BK172 := n4_; have HB := n5_; clear n0_ n1_ n2_ n3_ n4_ n5_; obtain ⟨⟨hcz3015_0, hcz3015_1, hcz3015_2, hcz3015_3, hcz3015_4, hcz3015_5⟩, hfz3015_0, hfz3015_1, hfz3015_2, hfz3015_3, hfz3015_4, hfz3015_5⟩ := cells6 BK172.out) | ((with_reducible refine gate_callee (f := 75) rfl ?_); refine goesL_ (some 41) rfl rfl Try.func75 (by kernel_rfl) rfl #[.int .i64 (wrap64 (((rd_T85 x162002_2 x7_2).f3) + 1)), .int .i64 1000000] rfl wT ?_; (with_reducible refine (spec_l14Min.calls (wrap64 (((rd_T85 x162002_2 x7_2).f3) + 1)) 1000000 t173 _ A2012.out).mono ?_); rintro e w' ⟨rfl, ⟨nd, rfl⟩⟩; refine ⟨_, rfl, ?_⟩; (try (rw [drewN_self w3014]; generalize hq_ : World.drewN w3014 _ = w3014; have n0_ := Aside0.mk (Kd.R_at hq_ HO_162002.out); have n1_ := Aside0.mk (blk_at hq_ BK161.out); have n2_ := Aside0.mk (blk_at hq_ BK162.out); have n3_ := Aside0.mk (blk_at hq_ BK163.out); have n4_ := Aside0.mk (blk_at hq_ BK172.out); have n5_ := Aside0.mk (below_at hq_ HB.out); clear hq_ HO_162002 BK161 BK162 BK163 BK172 HB; have HO_162002 := n0_; have BK161 := n1_; have BK162 := n2_; have BK163 := n3_; have BK172 := n4_; have HB := n5_; clear n0_ n1_ n2_ n3_ n4_ n5_; (try (obtain ⟨⟨hcyBK161_0, hcyBK161_1, hcyBK161_2⟩, hfyBK161_0, hfyBK161_1, hfyBK161_2⟩ := cells3 BK161.out)); (try (obtain ⟨⟨hcyBK162_0, hcyBK162_1, hcyBK162_2⟩, hfyBK162_0, hfyBK162_1, hfyBK162_2⟩ := cells3 BK162.out)); (try (obtain ⟨⟨hcyBK163_0, hcyBK163_1, hcyBK163_2, hcyBK163_3, hcyBK163_4, hcyBK163_5⟩, hfyBK163_0, hfyBK163_1, hfyBK163_2, hfyBK163_3, hfyBK163_4, hfyBK163_5⟩ := cells6 BK163.out)); (try (obtain ⟨⟨hcyBK172_0, hcyBK172_1, hcyBK172_2, hcyBK172_3, hcyBK172_4, hcyBK172_5⟩, hfyBK172_0, hfyBK172_1, hfyBK172_2, hfyBK172_3, hfyBK172_4, hfyBK172_5⟩ := cells6 BK172.out))))) | ((with_reducible refine gate_store (t := 2) (p := 42) rfl ?_); (try (rw [drewN_self w3014]; generalize hq_ : World.drewN w3014 _ = w3014; have n0_ := Aside0.mk (Kd.R_at hq_ HO_162002.out); have n1_ := Aside0.mk (blk_at hq_ BK161.out); have n2_ := Aside0.mk (blk_at hq_ BK162.out); have n3_ := Aside0.mk (blk_at hq_ BK163.out); have n4_ := Aside0.mk (blk_at hq_ BK172.out); have n5_ := Aside0.mk (below_at hq_ HB.out); clear hq_ HO_162002 BK161 BK162 BK163 BK172 HB; have HO_162002 := n0_; have BK161 := n1_; have BK162 := n2_; have BK163 := n3_; have BK172 := n4_; have HB := n5_; clear n0_ n1_ n2_ n3_ n4_ n5_; (try (obtain ⟨⟨hcyBK161_0, hcyBK161_1, hcyBK161_2⟩, hfyBK161_0, hfyBK161_1, hfyBK161_2⟩ := cells3 BK161.out)); (try (obtain ⟨⟨hcyBK162_0, hcyBK162_1, hcyBK162_2⟩, hfyBK162_0, hfyBK162_1, hfyBK162_2⟩ := cells3 BK162.out)); (try (obtain ⟨⟨hcyBK163_0, hcyBK163_1, hcyBK163_2, hcyBK163_3, hcyBK163_4, hcyBK163_5⟩, hfyBK163_0, hfyBK163_1, hfyBK163_2, hfyBK163_3, hfyBK163_4, hfyBK163_5⟩ := cells6 BK163.out)); (try (obtain ⟨⟨hcyBK172_0, hcyBK172_1, hcyBK172_2, hcyBK172_3, hcyBK172_4, hcyBK172_5⟩, hfyBK172_0, hfyBK172_1, hfyBK172_2, hfyBK172_3, hfyBK172_4, hfyBK172_5⟩ := cells6 BK172.out)))); refine store_event (t := 2) (p := 42) (v := ?_) (w1 := (w3014.setCell ⟨gb172, 3, none⟩ (.int .i64 t173))) ?hg ?ho ?hn ?hr ?_; (case ho => rfl); (case hg => rfl); (case hn => rfl); (case hr => first | (go_simp; done) | (go_simp; rfl)); intro w3016 hw; have n0_ : Aside0 (Kd.R k85 85 w3016 w.heap.size (fun k_ => k_ ≠ gb163 ∧ k_ ≠ gb172) (.slice (some ad171) x162002_2.length co3004) x162002_2) := ⟨(by rw [hw]; exact (by (with_reducible repeat (first | apply Kd.R_alloc | apply Kd.R_drewN | apply Kd.R_drew)); exact Kd.R_mono (Kd.R_far (p := ⟨gb172, 3, none⟩) (Kd.R_mono HO_162002.out (fun k_ hk => (⟨hk, hk.2⟩ : _ ∧ k_ ≠ gb172))) (fun _ hk => hk.2) (.int .i64 t173)) (fun _ hk => ⟨hk.1.1, hk.1.2⟩)))⟩; have n1_ : Aside0 (w3016.heap[gb161]? = some (.cells #[.int .i64 t166, .int .i64 t167, .slice (some ad171) x162002_2.length co3004] 63 (0, 0))) := ⟨(by rw [hw]; exact (by (with_reducible repeat (first | refine blk_drewN ?_ _ | refine blk_drew ?_ | refine blk_alloc ?_ _)); refine blk_far ?_ NB161_172.out _; (with_reducible repeat (first | refine blk_drewN ?_ _ | refine blk_drew ?_ | refine blk_alloc ?_ _)); exact BK161.out))⟩; have n2_ : Aside0 (w3016.heap[gb162]? = some (.cells #[.int .i64 x163000_2, .int .i64 x163001_2, .slice none 0 0] 63 (0, 0))) := ⟨(by rw [hw]; exact (by (with_reducible repeat (first | refine blk_drewN ?_ _ | refine blk_drew ?_ | refine blk_alloc ?_ _)); refine blk_far ?_ NB162_172.out _; (with_reducible repeat (first | refine blk_drewN ?_ _ | refine blk_drew ?_ | refine blk_alloc ?_ _)); exact BK162.out))⟩; have n3_ : Aside0 (w3016.heap[gb163]? = some (.cells #[.int .i64 x164000_2, .int .i64 x164001_2, .int .i64 x164002_2, .int .i64 x164003_2, .bool x164004_2, .bool x164005_2] 85 (0, 0))) := ⟨(by rw [hw]; exact (by (with_reducible repeat (first | refine blk_drewN ?_ _ | refine blk_drew ?_ | refine blk_alloc ?_ _)); refine blk_far ?_ NB163_172.out _; (with_reducible repeat (first | refine blk_drewN ?_ _ | refine blk_drew ?_ | refine blk_alloc ?_ _)); exact BK163.out))⟩; have n4_ : Aside0 (w3016.heap[gb172]? = some (.cells #[.int .i64 ((rd_T85 x162002_2 x7_2).f0), .int .i64 ((rd_T85 x162002_2 x7_2).f1), .int .i64 a1, .int .i64 t173, .bool ((rd_T85 x162002_2 x7_2).f4), .bool false] 85 (0, 0))) := ⟨(by rw [hw]; exact (by (with_reducible repeat (first | refine blk_drewN ?_ _ | refine blk_drew ?_ | refine blk_alloc ?_ _)); refine blk_put (cs := #[.int .i64 ((rd_T85 x162002_2 x7_2).f0), .int .i64 ((rd_T85 x162002_2 x7_2).f1), .int .i64 a1, .int .i64 ((rd_T85 x162002_2 x7_2).f3), .bool ((rd_T85 x162002_2 x7_2).f4), .bool false]) ?_ 3 _ rfl; (with_reducible repeat (first | refine blk_drewN ?_ _ | refine blk_drew ?_ | refine blk_alloc ?_ _)); exact BK172.out))⟩; have n5_ : Aside0 (Below w.heap.size w w3016) := ⟨(by rw [hw]; exact wB)⟩; clear hw; clear HO_162002; clear BK161; clear BK162; clear BK163; clear BK172; clear HB; have HO_162002 := n0_; have BK161 := n1_; have BK162 := n2_; have BK163 := n3_; have BK172 := n4_; have HB := n5_; clear n0_ n1_ n2_ n3_ n4_ n5_; obtain ⟨⟨hcz3017_0, hcz3017_1, hcz3017_2⟩, hfz3017_0, hfz3017_1, hfz3017_2⟩ := cells3 BK161.out; obtain ⟨⟨hcz3018_0, hcz3018_1, hcz3018_2, hcz3018_3, hcz3018_4, hcz3018_5⟩, hfz3018_0, hfz3018_1, hfz3018_2, hfz3018_3, hfz3018_4, hfz3018_5⟩ := cells6 BK172.out; have p2013 : 0 ≤ (x7_2 : Int) := of_decide_eq_true (by first | (with_reducible assumption) | assumption); have q2013 : (x7_2 : Int) < ((x162002_2.length : Int) : Int) := of_decide_eq_true (by first | (with_reducible assumption) | assumption); obtain ⟨go2013, co2013, eo2013, gb2013, gl2013, cl2013, HG2013⟩ := Kd.R_form HO_162002.out (by omega); (first | cases eo2013 | (injection eo2013 with ea_ en_ ec_; (first | subst ea_ | (injection ea_ with ea_; subst ea_)); subst ec_; clear en_)); have GB2013 := Aside0.mk gb2013; have GG2013 := Aside0.mk HG2013; clear gb2013 gl2013 HG2013; (first | simp only [add_plain] at hx171_0 | skip); (first | simp only [add_plain] at hx171_1 | skip); (first | simp only [add_plain] at hx171_2 | skip); (first | simp only [add_plain] at hx171_3 | skip); (first | simp only [add_plain] at hx171_4 | skip); (first | simp only [add_plain] at hx171_5 | skip); obtain ⟨ce2013, hcl2013, hM2013, hcc2013, hfr2013⟩ := Kd.R_elem HO_162002.out z85 (x7_2 : Int) p2013 q2013; obtain rfl := k85_openM hM2013; have hx2013_0 : w3016.cell? ⟨go2013, (x7_2 : Int).toNat * 6, none⟩ = some (.int .i64 ((rd_T85 x162002_2 x7_2).f0)) := hcc2013 0 _ rfl; have hx2013_1 : w3016.cell? ⟨go2013, (x7_2 : Int).toNat * 6 + 1, none⟩ = some (.int .i64 ((rd_T85 x162002_2 x7_2).f1)) := hcc2013 1 _ rfl; have hx2013_2 : w3016.cell? ⟨go2013, (x7_2 : Int).toNat * 6 + 2, none⟩ = some (.int .i64 ((rd_T85 x162002_2 x7_2).f2)) := hcc2013 2 _ rfl; have hx2013_3 : w3016.cell? ⟨go2013, (x7_2 : Int).toNat * 6 + 3, none⟩ = some (.int .i64 ((rd_T85 x162002_2 x7_2).f3)) := hcc2013 3 _ rfl; have hx2013_4 : w3016.cell? ⟨go2013, (x7_2 : Int).toNat * 6 + 4, none⟩ = some (.bool ((rd_T85 x162002_2 x7_2).f4)) := hcc2013 4 _ rfl; have hx2013_5 : w3016.cell? ⟨go2013, (x7_2 : Int).toNat * 6 + 5, none⟩ = some (.bool ((rd_T85 x162002_2 x7_2).f5)) := hcc2013 5 _ rfl; have hf2013_0 : w3016.frozen? ⟨go2013, (x7_2 : Int).toNat * 6, none⟩ = false := hfr2013 0; have hf2013_1 : w3016.frozen? ⟨go2013, (x7_2 : Int).toNat * 6 + 1, none⟩ = false := hfr2013 1; have hf2013_2 : w3016.frozen? ⟨go2013, (x7_2 : Int).toNat * 6 + 2, none⟩ = false := hfr2013 2; have hf2013_3 : w3016.frozen? ⟨go2013, (x7_2 : Int).toNat * 6 + 3, none⟩ = false := hfr2013 3; have hf2013_4 : w3016.frozen? ⟨go2013, (x7_2 : Int).toNat * 6 + 4, none⟩ = false := hfr2013 4; have hf2013_5 : w3016.frozen? ⟨go2013, (x7_2 : Int).toNat * 6 + 5, none⟩ = false := hfr2013 5; clear hcl2013 hcc2013 hfr2013 hM2013; (try rw [← Nbq2010.out] at hx2013_4); (try rw [← Nbq2010.out] at hx2013_5); replace p2013 := eq_true p2013; replace q2013 := eq_true q2013; have HX3019 := Aside0.mk (show Kd.R k85 85 w3016 w.heap.size (fun k_ => k_ ≠ gb163 ∧ k_ ≠ gb172) (.slice (some ⟨go2013, 0, none⟩) x162002_2.length co3004) x162002_2 from (Rh HO_162002)); obtain ⟨ce3019, hcl3019, hM3019, hcc3019, hfr3019⟩ := Kd.R_elem HX3019.out z85 (x7_2 : Int) (of_decide_eq_true (by first | (with_reducible assumption) | assumption)) (by have h_ : (x7_2 : Int) < ((x162002_2.length : Int) : Int) := of_decide_eq_true (by first | (with_reducible assumption) | assumption); first | exact h_ | (have e_ := (Kd.R_reads' HO_162002.out).1; omega) | simpa using h_); obtain rfl := k85_openM hM3019; have HP3019 := Kd.R_seg HX3019.out (x7_2 : Int) (of_decide_eq_true (by first | (with_reducible assumption) | assumption)) (by have h_ : (x7_2 : Int) < ((x162002_2.length : Int) : Int) := of_decide_eq_true (by first | (with_reducible assumption) | assumption); first | exact h_ | (have e_ := (Kd.R_reads' HO_162002.out).1; omega) | simpa using h_) (seg := [.int .i64 ((rd_T85 x162002_2 x7_2).f0), .int .i64 ((rd_T85 x162002_2 x7_2).f1), .int .i64 a1, .int .i64 t173, .bool ((rd_T85 x162002_2 x7_2).f4), .bool false]) (j := 0) hcl3019 hcc3019 (show 6 ≤ 6 from by decide) (x' := (⟨(rd_T85 x162002_2 x7_2).f0, (rd_T85 x162002_2 x7_2).f1, a1, t173, (rd_T85 x162002_2 x7_2).f4, false⟩ : S85)) (by first | exact k85_mkM _ _ _ (⟨(rd_T85 x162002_2 x7_2).f0, (rd_T85 x162002_2 x7_2).f1, a1, t173, (rd_T85 x162002_2 x7_2).f4, false⟩ : S85) | ((try (have e_ := Nbq2010.out; simp only [rd_T85] at e_; rw [← e_])); exact k85_mkM _ _ _ (⟨(rd_T85 x162002_2 x7_2).f0, (rd_T85 x162002_2 x7_2).f1, a1, t173, (rd_T85 x162002_2 x7_2).f4, false⟩ : S85))) (fun _ hk => hk); have hx3019_0 := hcc3019 0 _ rfl; (try simp only [show (k85).sz = 6 from rfl, Nat.mul_one, Nat.add_zero] at hx3019_0); have hf3019_0 := hfr3019 0; (try simp only [show (k85).sz = 6 from rfl, Nat.mul_one, Nat.add_zero] at hf3019_0); have hx3019_1 := hcc3019 1 _ rfl; (try simp only [show (k85).sz = 6 from rfl, Nat.mul_one, Nat.add_zero] at hx3019_1); have hf3019_1 := hfr3019 1; (try simp only [show (k85).sz = 6 from rfl, Nat.mul_one, Nat.add_zero] at hf3019_1); have hx3019_2 := hcc3019 2 _ rfl; (try simp only [show (k85).sz = 6 from rfl, Nat.mul_one, Nat.add_zero] at hx3019_2); have hf3019_2 := hfr3019 2; (try simp only [show (k85).sz = 6 from rfl, Nat.mul_one, Nat.add_zero] at hf3019_2); have hx3019_3 := hcc3019 3 _ rfl; (try simp only [show (k85).sz = 6 from rfl, Nat.mul_one, Nat.add_zero] at hx3019_3); have hf3019_3 := hfr3019 3; (try simp only [show (k85).sz = 6 from rfl, Nat.mul_one, Nat.add_zero] at hf3019_3); have hx3019_4 := hcc3019 4 _ rfl; (try simp only [show (k85).sz = 6 from rfl, Nat.mul_one, Nat.add_zero] at hx3019_4); have hf3019_4 := hfr3019 4; (try simp only [show (k85).sz = 6 from rfl, Nat.mul_one, Nat.add_zero] at hf3019_4); have hx3019_5 := hcc3019 5 _ rfl; (try simp only [show (k85).sz = 6 from rfl, Nat.mul_one, Nat.add_zero] at hx3019_5); have hf3019_5 := hfr3019 5; (try simp only [show (k85).sz = 6 from rfl, Nat.mul_one, Nat.add_zero] at hf3019_5); clear hcl3019 hcc3019 hfr3019 hM3019) | ((with_reducible refine gate_store (t := 85) (p := 47) rfl ?_); (try (rw [drewN_self w3016]; generalize hq_ : World.drewN w3016 _ = w3016; have n0_ := Aside0.mk (Kd.R_at hq_ HO_162002.out); have n1_ := Aside0.mk (blk_at hq_ BK161.out); have n2_ := Aside0.mk (blk_at hq_ BK162.out); have n3_ := Aside0.mk (blk_at hq_ BK163.out); have n4_ := Aside0.mk (blk_at hq_ BK172.out); have n5_ := Aside0.mk (below_at hq_ HB.out); clear hq_ HO_162002 BK161 BK162 BK163 BK172 HB; have HO_162002 := n0_; have BK161 := n1_; have BK162 := n2_; have BK163 := n3_; have BK172 := n4_; have HB := n5_; clear n0_ n1_ n2_ n3_ n4_ n5_; (try (obtain ⟨⟨hcyBK161_0, hcyBK161_1, hcyBK161_2⟩, hfyBK161_0, hfyBK161_1, hfyBK161_2⟩ := cells3 BK161.out)); (try (obtain ⟨⟨hcyBK162_0, hcyBK162_1, hcyBK162_2⟩, hfyBK162_0, hfyBK162_1, hfyBK162_2⟩ := cells3 BK162.out)); (try (obtain ⟨⟨hcyBK163_0, hcyBK163_1, hcyBK163_2, hcyBK163_3, hcyBK163_4, hcyBK163_5⟩, hfyBK163_0, hfyBK163_1, hfyBK163_2, hfyBK163_3, hfyBK163_4, hfyBK163_5⟩ := cells6 BK163.out)); (try (obtain ⟨⟨hcyBK172_0, hcyBK172_1, hcyBK172_2, hcyBK172_3, hcyBK172_4, hcyBK172_5⟩, hfyBK172_0, hfyBK172_1, hfyBK172_2, hfyBK172_3, hfyBK172_4, hfyBK172_5⟩ := cells6 BK172.out)); (try (have HX3019 := Aside0.mk (show Kd.R k85 85 w3016 w.heap.size (fun k_ => k_ ≠ gb163 ∧ k_ ≠ gb172) (.slice (some ⟨go2013, 0, none⟩) x162002_2.length co3004) x162002_2 from (Rh HO_162002)))); (try (obtain ⟨ce3019, hcl3019, hM3019, hcc3019, hfr3019⟩ := Kd.R_elem HX3019.out z85 (x7_2 : Int) (of_decide_eq_true (by first | (with_reducible assumption) | assumption)) (by have h_ : (x7_2 : Int) < ((x162002_2.length : Int) : Int) := of_decide_eq_true (by first | (with_reducible assumption) | assumption); first | exact h_ | (have e_ := (Kd.R_reads' HO_162002.out).1; omega) | simpa using h_))); (try (obtain rfl := k85_openM hM3019)); (try (have HP3019 := Kd.R_seg HX3019.out (x7_2 : Int) (of_decide_eq_true (by first | (with_reducible assumption) | assumption)) (by have h_ : (x7_2 : Int) < ((x162002_2.length : Int) : Int) := of_decide_eq_true (by first | (with_reducible assumption) | assumption); first | exact h_ | (have e_ := (Kd.R_reads' HO_162002.out).1; omega) | simpa using h_) (seg := [.int .i64 ((rd_T85 x162002_2 x7_2).f0), .int .i64 ((rd_T85 x162002_2 x7_2).f1), .int .i64 a1, .int .i64 t173, .bool ((rd_T85 x162002_2 x7_2).f4), .bool false]) (j := 0) hcl3019 hcc3019 (show 6 ≤ 6 from by decide) (x' := (⟨(rd_T85 x162002_2 x7_2).f0, (rd_T85 x162002_2 x7_2).f1, a1, t173, (rd_T85 x162002_2 x7_2).f4, false⟩ : S85)) (by first | exact k85_mkM _ _ _ (⟨(rd_T85 x162002_2 x7_2).f0, (rd_T85 x162002_2 x7_2).f1, a1, t173, (rd_T85 x162002_2 x7_2).f4, false⟩ : S85) | ((try (have e_ := Nbq2010.out; simp only [rd_T85] at e_; rw [← e_])); exact k85_mkM _ _ _ (⟨(rd_T85 x162002_2 x7_2).f0, (rd_T85 x162002_2 x7_2).f1, a1, t173, (rd_T85 x162002_2 x7_2).f4, false⟩ : S85))) (fun _ hk => hk))); (try (have hx3019_0 := hcc3019 0 _ rfl)); (try (try simp only [show (k85).sz = 6 from rfl, Nat.mul_one, Nat.add_zero] at hx3019_0)); (try (have hf3019_0 := hfr3019 0)); (try (try simp only [show (k85).sz = 6 from rfl, Nat.mul_one, Nat.add_zero] at hf3019_0)); (try (have hx3019_1 := hcc3019 1 _ rfl)); (try (try simp only [show (k85).sz = 6 from rfl, Nat.mul_one, Nat.add_zero] at hx3019_1)); (try (have hf3019_1 := hfr3019 1)); (try (try simp only [show (k85).sz = 6 from rfl, Nat.mul_one, Nat.add_zero] at hf3019_1)); (try (have hx3019_2 := hcc3019 2 _ rfl)); (try (try simp only [show (k85).sz = 6 from rfl, Nat.mul_one, Nat.add_zero] at hx3019_2)); (try (have hf3019_2 := hfr3019 2)); (try (try simp only [show (k85).sz = 6 from rfl, Nat.mul_one, Nat.add_zero] at hf3019_2)); (try (have hx3019_3 := hcc3019 3 _ rfl)); (try (try simp only [show (k85).sz = 6 from rfl, Nat.mul_one, Nat.add_zero] at hx3019_3)); (try (have hf3019_3 := hfr3019 3)); (try (try simp only [show (k85).sz = 6 from rfl, Nat.mul_one, Nat.add_zero] at hf3019_3)); (try (have hx3019_4 := hcc3019 4 _ rfl)); (try (try simp only [show (k85).sz = 6 from rfl, Nat.mul_one, Nat.add_zero] at hx3019_4)); (try (have hf3019_4 := hfr3019 4)); (try (try simp only [show (k85).sz = 6 from rfl, Nat.mul_one, Nat.add_zero] at hf3019_4)); (try (have hx3019_5 := hcc3019 5 _ rfl)); (try (try simp only [show (k85).sz = 6 from rfl, Nat.mul_one, Nat.add_zero] at hx3019_5)); (try (have hf3019_5 := hfr3019 5)); (try (try simp only [show (k85).sz = 6 from rfl, Nat.mul_one, Nat.add_zero] at hf3019_5)); (try (clear hcl3019 hcc3019 hfr3019 hM3019)))); refine store_event (t := 85) (p := 47) (v := ?_) (w1 := ((((((w3016.setCell ⟨go2013, (x7_2 : Int).toNat * 6, none⟩ (.int .i64 ((rd_T85 x162002_2 x7_2).f0))).setCell ⟨go2013, (x7_2 : Int).toNat * 6 + 1, none⟩ (.int .i64 ((rd_T85 x162002_2 x7_2).f1))).setCell ⟨go2013, (x7_2 : Int).toNat * 6 + 2, none⟩ (.int .i64 a1)).setCell ⟨go2013, (x7_2 : Int).toNat * 6 + 3, none⟩ (.int .i64 t173)).setCell ⟨go2013, (x7_2 : Int).toNat * 6 + 4, none⟩ (.bool ((rd_T85 x162002_2 x7_2).f4))).setCell ⟨go2013, (x7_2 : Int).toNat * 6 + 5, none⟩ (.bool false))) ?hg ?ho ?hn ?hr ?_; (case ho => rfl); (case hg => rfl); (case hn => rfl); (case hr => first | (go_simp; done) | (go_simp; rfl)); intro w3020 hw; have hg : w3016.grownBy w3020 (some go2013) := (by rw [hw]; exact HP3019.2); have hp_ : Kd.R k85 85 w3020 w.heap.size (fun k_ => k_ ≠ gb163 ∧ k_ ≠ gb172) (.slice (some ⟨go2013, 0, none⟩) x162002_2.length co3004) y174 := (by rw [hw, Ny174.out]; exact HP3019.1); clear HP3019; have n0_ := Aside0.mk (hp_); have n1_ := Aside0.mk (blk_grown (Bh BK161) hg (Kd.R_ne HO_162002.out BK161.out (by decide))); have n2_ := Aside0.mk (blk_grown (Bh BK162) hg (Kd.R_ne HO_162002.out BK162.out (by decide))); have n3_ := Aside0.mk (blk_grown (Bh BK163) hg (Kd.R_away HO_162002.out (fun _ hk => hk.1))); have n4_ := Aside0.mk (blk_grown (Bh BK172) hg (Kd.R_away HO_162002.out (fun _ hk => hk.2))); have n5_ := Aside0.mk ((by rw [hw]; exact below_set (below_set (below_set (below_set (below_set (below_set (HB.out) GB2013.out) GB2013.out) GB2013.out) GB2013.out) GB2013.out) GB2013.out : Below w.heap.size w w3020)); clear HO_162002; clear BK161; clear BK162; clear BK163; clear BK172; clear HB; have HO_162002 := n0_; have BK161 := n1_; have BK162 := n2_; have BK163 := n3_; have BK172 := n4_; have HB := n5_; clear n0_ n1_ n2_ n3_ n4_ n5_; clear hg hw hp_))
 )
 rotate_left
 )
 rotate_right 2
 {
 have n0_ := Aside0.mk (Kd.R_drew HO_162002.out)
 have n1_ := Aside0.mk (blk_drew BK161.out)
 have n2_ := Aside0.mk (blk_drew BK162.out)
 have n3_ := Aside0.mk (blk_drew BK163.out)
 have n4_ := Aside0.mk (blk_drew BK172.out)
 have n5_ := Aside0.mk (below_drew1 HB.out)
 clear HO_162002
 clear BK161
 clear BK162
 clear BK163
 clear BK172
 clear HB
 have HO_162002 := n0_
 have BK161 := n1_
 have BK162 := n2_
 have BK163 := n3_
 have BK172 := n4_
 have HB := n5_
 clear n0_ n1_ n2_ n3_ n4_ n5_
 refine start_ (n := 5) (S := fun w' => w'.cell? ⟨gb161, 0, none⟩ = some (.int .i64 t166) ∧ w'.cell? ⟨gb161, 1, none⟩ = some (.int .i64 t167) ∧ w'.cell? ⟨gb161, 2, none⟩ = some (.slice (some ⟨go2013, 0, none⟩) x162002_2.length co3004) ∧ w'.cell? ⟨gb172, 0, none⟩ = some (.int .i64 ((rd_T85 x162002_2 x7_2).f0)) ∧ w'.cell? ⟨gb172, 1, none⟩ = some (.int .i64 ((rd_T85 x162002_2 x7_2).f1)) ∧ w'.cell? ⟨gb172, 2, none⟩ = some (.int .i64 a1) ∧ w'.cell? ⟨gb172, 3, none⟩ = some (.int .i64 t173) ∧ w'.cell? ⟨gb172, 4, none⟩ = some (.bool ((rd_T85 x162002_2 x7_2).f4)) ∧ w'.cell? ⟨gb172, 5, none⟩ = some (.bool false)) (ds := []) #[false, false, false, false, false] (by kernel_rfl) rfl rfl ⟨(blk_cell BK161.out 0).trans rfl, (blk_cell BK161.out 1).trans rfl, (blk_cell BK161.out 2).trans rfl, (blk_cell BK172.out 0).trans rfl, (blk_cell BK172.out 1).trans rfl, (blk_cell BK172.out 2).trans rfl, (blk_cell BK172.out 3).trans rfl, (blk_cell BK172.out 4).trans rfl, (blk_cell BK172.out 5).trans rfl⟩ (fun hHeld => ?_)
 generalize w3020.drew = w3021 at HO_162002 BK161 BK162 BK163 BK172 HB hHeld ⊢
 refine take_ (i := 0) (N := some 48) (v := ?_) (a' := ?_) #[true, false, false, false, false] rfl rfl (by kernel_rfl) (fun _ _ _ h => h) (Or.inl ⟨by rfl, ?_⟩) hHeld ?_ ?_
 rotate_left
 {
 rintro w' ⟨s0, s1, s2, s3, s4, s5, s6, s7, s8⟩
 go_simp
 with_reducible rfl
 }
 rotate_left
 {
 simp only [Act.put, List.setIfInBounds_toArray, List.set_cons_zero, List.set_cons_succ, i64_w, i32_w]
 rfl
 }
 refine take_ (i := 1) (N := some 49) (v := ?_) (a' := ?_) #[true, true, false, false, false] rfl rfl (by kernel_rfl) (fun _ _ _ h => h) (Or.inl ⟨by rfl, ?_⟩) hHeld ?_ ?_
 rotate_left
 {
 rintro w' ⟨s0, s1, s2, s3, s4, s5, s6, s7, s8⟩
 go_simp
 with_reducible rfl
 }
 rotate_left
 {
 simp only [Act.put, List.setIfInBounds_toArray, List.set_cons_zero, List.set_cons_succ, i64_w, i32_w]
 rfl
 }
 refine one_ (i := 2) (N := none) #[true, true, true, false, false] rfl rfl (by kernel_rfl) (by decide) (fun K hK => ?_)
 have hs3022 : w3021.cell? ⟨gb162, 0, none⟩ = some (.int .i64 x163000_2) := (blk_cell BK162.out 0).trans rfl
 have hfs3022 := blk_frozen BK162.out 0
 have hns3022_0 := NB161_162.out
 have hns3022_2 := NB163_162.out
 have hns3022_3 := NB172_162.out
 have hms3022_0 := NB162_161.out
 have hms3022_2 := NB162_163.out
 have hms3022_3 := NB162_172.out
 have hs3023 : w3021.cell? ⟨gb162, 1, none⟩ = some (.int .i64 x163001_2) := (blk_cell BK162.out 1).trans rfl
 have hfs3023 := blk_frozen BK162.out 1
 have hns3023_0 := NB161_162.out
 have hns3023_2 := NB163_162.out
 have hns3023_3 := NB172_162.out
 have hms3023_0 := NB162_161.out
 have hms3023_2 := NB162_163.out
 have hms3023_3 := NB162_172.out
 have hs3024 : w3021.cell? ⟨gb162, 2, none⟩ = some (.slice none 0 0) := (blk_cell BK162.out 2).trans rfl
 have hfs3024 := blk_frozen BK162.out 2
 have hns3024_0 := NB161_162.out
 have hns3024_2 := NB163_162.out
 have hns3024_3 := NB172_162.out
 have hms3024_0 := NB162_161.out
 have hms3024_2 := NB162_163.out
 have hms3024_3 := NB162_172.out
 refine skip_ (w1 := ?_) (by rfl) rfl ?_ ?_
 rotate_left
 {
 go_simp
 rfl
 }
 refine hK.out _ _ ⟨((cell_far (p := ⟨gb162, _, none⟩) NB161_162.out _).trans (((cell_far (p := ⟨gb162, _, none⟩) NB161_162.out _).trans (((cell_far (p := ⟨gb162, _, none⟩) NB161_162.out _).trans (hHeld.1)))))), ((cell_far (p := ⟨gb162, _, none⟩) NB161_162.out _).trans (((cell_far (p := ⟨gb162, _, none⟩) NB161_162.out _).trans (((cell_far (p := ⟨gb162, _, none⟩) NB161_162.out _).trans (hHeld.2.1)))))), ((cell_far (p := ⟨gb162, _, none⟩) NB161_162.out _).trans (((cell_far (p := ⟨gb162, _, none⟩) NB161_162.out _).trans (((cell_far (p := ⟨gb162, _, none⟩) NB161_162.out _).trans (hHeld.2.2.1)))))), ((cell_far (p := ⟨gb162, _, none⟩) NB172_162.out _).trans (((cell_far (p := ⟨gb162, _, none⟩) NB172_162.out _).trans (((cell_far (p := ⟨gb162, _, none⟩) NB172_162.out _).trans (hHeld.2.2.2.1)))))), ((cell_far (p := ⟨gb162, _, none⟩) NB172_162.out _).trans (((cell_far (p := ⟨gb162, _, none⟩) NB172_162.out _).trans (((cell_far (p := ⟨gb162, _, none⟩) NB172_162.out _).trans (hHeld.2.2.2.2.1)))))), ((cell_far (p := ⟨gb162, _, none⟩) NB172_162.out _).trans (((cell_far (p := ⟨gb162, _, none⟩) NB172_162.out _).trans (((cell_far (p := ⟨gb162, _, none⟩) NB172_162.out _).trans (hHeld.2.2.2.2.2.1)))))), ((cell_far (p := ⟨gb162, _, none⟩) NB172_162.out _).trans (((cell_far (p := ⟨gb162, _, none⟩) NB172_162.out _).trans (((cell_far (p := ⟨gb162, _, none⟩) NB172_162.out _).trans (hHeld.2.2.2.2.2.2.1)))))), ((cell_far (p := ⟨gb162, _, none⟩) NB172_162.out _).trans (((cell_far (p := ⟨gb162, _, none⟩) NB172_162.out _).trans (((cell_far (p := ⟨gb162, _, none⟩) NB172_162.out _).trans (hHeld.2.2.2.2.2.2.2.1)))))), ((cell_far (p := ⟨gb162, _, none⟩) NB172_162.out _).trans (((cell_far (p := ⟨gb162, _, none⟩) NB172_162.out _).trans (((cell_far (p := ⟨gb162, _, none⟩) NB172_162.out _).trans (hHeld.2.2.2.2.2.2.2.2))))))⟩ (fun hHeld => ?_)
 clear hK K
 refine one_ (i := 3) (N := none) #[true, true, true, true, false] rfl rfl (by kernel_rfl) (by decide) (fun K hK => ?_)
 have hs3025 : w3021.cell? ⟨gb163, 0, none⟩ = some (.int .i64 x164000_2) := (blk_cell BK163.out 0).trans rfl
 have hfs3025 := blk_frozen BK163.out 0
 have hns3025_0 := NB161_163.out
 have hns3025_1 := NB162_163.out
 have hns3025_3 := NB172_163.out
 have hms3025_0 := NB163_161.out
 have hms3025_1 := NB163_162.out
 have hms3025_3 := NB163_172.out
 have hs3026 : w3021.cell? ⟨gb163, 1, none⟩ = some (.int .i64 x164001_2) := (blk_cell BK163.out 1).trans rfl
 have hfs3026 := blk_frozen BK163.out 1
 have hns3026_0 := NB161_163.out
 have hns3026_1 := NB162_163.out
 have hns3026_3 := NB172_163.out
 have hms3026_0 := NB163_161.out
 have hms3026_1 := NB163_162.out
 have hms3026_3 := NB163_172.out
 have hs3027 : w3021.cell? ⟨gb163, 2, none⟩ = some (.int .i64 x164002_2) := (blk_cell BK163.out 2).trans rfl
 have hfs3027 := blk_frozen BK163.out 2
 have hns3027_0 := NB161_163.out
 have hns3027_1 := NB162_163.out
 have hns3027_3 := NB172_163.out
 have hms3027_0 := NB163_161.out
 have hms3027_1 := NB163_162.out
 have hms3027_3 := NB163_172.out
 have hs3028 : w3021.cell? ⟨gb163, 3, none⟩ = some (.int .i64 x164003_2) := (blk_cell BK163.out 3).trans rfl
 have hfs3028 := blk_frozen BK163.out 3
 have hns3028_0 := NB161_163.out
 have hns3028_1 := NB162_163.out
 have hns3028_3 := NB172_163.out
 have hms3028_0 := NB163_161.out
 have hms3028_1 := NB163_162.out
 have hms3028_3 := NB163_172.out
 have hs3029 : w3021.cell? ⟨gb163, 4, none⟩ = some (.bool x164004_2) := (blk_cell BK163.out 4).trans rfl
 have hfs3029 := blk_frozen BK163.out 4
 have hns3029_0 := NB161_163.out
 have hns3029_1 := NB162_163.out
 have hns3029_3 := NB172_163.out
 have hms3029_0 := NB163_161.out
 have hms3029_1 := NB163_162.out
 have hms3029_3 := NB163_172.out
 have hs3030 : w3021.cell? ⟨gb163, 5, none⟩ = some (.bool x164005_2) := (blk_cell BK163.out 5).trans rfl
 have hfs3030 := blk_frozen BK163.out 5
 have hns3030_0 := NB161_163.out
 have hns3030_1 := NB162_163.out
 have hns3030_3 := NB172_163.out
 have hms3030_0 := NB163_161.out
 have hms3030_1 := NB163_162.out
 have hms3030_3 := NB163_172.out
 refine skip_ (w1 := ?_) (by rfl) rfl ?_ ?_
 rotate_left
 {
 go_simp
 rfl
 }
 refine hK.out _ _ ⟨((cell_far (p := ⟨gb163, _, none⟩) NB161_163.out _).trans (((cell_far (p := ⟨gb163, _, none⟩) NB161_163.out _).trans (((cell_far (p := ⟨gb163, _, none⟩) NB161_163.out _).trans (((cell_far (p := ⟨gb163, _, none⟩) NB161_163.out _).trans (((cell_far (p := ⟨gb163, _, none⟩) NB161_163.out _).trans (((cell_far (p := ⟨gb163, _, none⟩) NB161_163.out _).trans (hHeld.1)))))))))))), ((cell_far (p := ⟨gb163, _, none⟩) NB161_163.out _).trans (((cell_far (p := ⟨gb163, _, none⟩) NB161_163.out _).trans (((cell_far (p := ⟨gb163, _, none⟩) NB161_163.out _).trans (((cell_far (p := ⟨gb163, _, none⟩) NB161_163.out _).trans (((cell_far (p := ⟨gb163, _, none⟩) NB161_163.out _).trans (((cell_far (p := ⟨gb163, _, none⟩) NB161_163.out _).trans (hHeld.2.1)))))))))))), ((cell_far (p := ⟨gb163, _, none⟩) NB161_163.out _).trans (((cell_far (p := ⟨gb163, _, none⟩) NB161_163.out _).trans (((cell_far (p := ⟨gb163, _, none⟩) NB161_163.out _).trans (((cell_far (p := ⟨gb163, _, none⟩) NB161_163.out _).trans (((cell_far (p := ⟨gb163, _, none⟩) NB161_163.out _).trans (((cell_far (p := ⟨gb163, _, none⟩) NB161_163.out _).trans (hHeld.2.2.1)))))))))))), ((cell_far (p := ⟨gb163, _, none⟩) NB172_163.out _).trans (((cell_far (p := ⟨gb163, _, none⟩) NB172_163.out _).trans (((cell_far (p := ⟨gb163, _, none⟩) NB172_163.out _).trans (((cell_far (p := ⟨gb163, _, none⟩) NB172_163.out _).trans (((cell_far (p := ⟨gb163, _, none⟩) NB172_163.out _).trans (((cell_far (p := ⟨gb163, _, none⟩) NB172_163.out _).trans (hHeld.2.2.2.1)))))))))))), ((cell_far (p := ⟨gb163, _, none⟩) NB172_163.out _).trans (((cell_far (p := ⟨gb163, _, none⟩) NB172_163.out _).trans (((cell_far (p := ⟨gb163, _, none⟩) NB172_163.out _).trans (((cell_far (p := ⟨gb163, _, none⟩) NB172_163.out _).trans (((cell_far (p := ⟨gb163, _, none⟩) NB172_163.out _).trans (((cell_far (p := ⟨gb163, _, none⟩) NB172_163.out _).trans (hHeld.2.2.2.2.1)))))))))))), ((cell_far (p := ⟨gb163, _, none⟩) NB172_163.out _).trans (((cell_far (p := ⟨gb163, _, none⟩) NB172_163.out _).trans (((cell_far (p := ⟨gb163, _, none⟩) NB172_163.out _).trans (((cell_far (p := ⟨gb163, _, none⟩) NB172_163.out _).trans (((cell_far (p := ⟨gb163, _, none⟩) NB172_163.out _).trans (((cell_far (p := ⟨gb163, _, none⟩) NB172_163.out _).trans (hHeld.2.2.2.2.2.1)))))))))))), ((cell_far (p := ⟨gb163, _, none⟩) NB172_163.out _).trans (((cell_far (p := ⟨gb163, _, none⟩) NB172_163.out _).trans (((cell_far (p := ⟨gb163, _, none⟩) NB172_163.out _).trans (((cell_far (p := ⟨gb163, _, none⟩) NB172_163.out _).trans (((cell_far (p := ⟨gb163, _, none⟩) NB172_163.out _).trans (((cell_far (p := ⟨gb163, _, none⟩) NB172_163.out _).trans (hHeld.2.2.2.2.2.2.1)))))))))))), ((cell_far (p := ⟨gb163, _, none⟩) NB172_163.out _).trans (((cell_far (p := ⟨gb163, _, none⟩) NB172_163.out _).trans (((cell_far (p := ⟨gb163, _, none⟩) NB172_163.out _).trans (((cell_far (p := ⟨gb163, _, none⟩) NB172_163.out _).trans (((cell_far (p := ⟨gb163, _, none⟩) NB172_163.out _).trans (((cell_far (p := ⟨gb163, _, none⟩) NB172_163.out _).trans (hHeld.2.2.2.2.2.2.2.1)))))))))))), ((cell_far (p := ⟨gb163, _, none⟩) NB172_163.out _).trans (((cell_far (p := ⟨gb163, _, none⟩) NB172_163.out _).trans (((cell_far (p := ⟨gb163, _, none⟩) NB172_163.out _).trans (((cell_far (p := ⟨gb163, _, none⟩) NB172_163.out _).trans (((cell_far (p := ⟨gb163, _, none⟩) NB172_163.out _).trans (((cell_far (p := ⟨gb163, _, none⟩) NB172_163.out _).trans (hHeld.2.2.2.2.2.2.2.2))))))))))))⟩ (fun hHeld => ?_)
 clear hK K
 refine pure_ (i := 4) (N := some 6) (v := ?_) (a' := ?_) #[true, true, true, true, true] rfl rfl (by kernel_rfl) (fun _ _ _ h => h) (Or.inl ⟨by rfl, ?_⟩) ?_ ?_
 rotate_left
 {
 intro w'
 go_simp
 with_reducible rfl
 }
 rotate_left
 {
 simp only [Act.put, List.setIfInBounds_toArray, List.set_cons_zero, List.set_cons_succ, i64_w, i32_w]
 rfl
 }
 refine done_ (by kernel_rfl) ?_
 try go_wp2
 refine bodyPost_ret (results_list (rs := [.cell 4 63, .cell 5 85, .tmp 6]) rfl (by simp) (.cell gb162 63 #[.int .i64 t166, .int .i64 t167, .slice (some ⟨go2013, 0, none⟩) x162002_2.length co3004] (0, 0) _ rfl (by (with_reducible repeat (first | refine blk_drewN ?_ _ | refine blk_drew ?_ | refine blk_alloc ?_ _)); refine blk_far ?_ NB162_163.out _; (with_reducible repeat (first | refine blk_drewN ?_ _ | refine blk_drew ?_ | refine blk_alloc ?_ _)); refine blk_far ?_ NB162_163.out _; (with_reducible repeat (first | refine blk_drewN ?_ _ | refine blk_drew ?_ | refine blk_alloc ?_ _)); refine blk_far ?_ NB162_163.out _; (with_reducible repeat (first | refine blk_drewN ?_ _ | refine blk_drew ?_ | refine blk_alloc ?_ _)); refine blk_far ?_ NB162_163.out _; (with_reducible repeat (first | refine blk_drewN ?_ _ | refine blk_drew ?_ | refine blk_alloc ?_ _)); refine blk_far ?_ NB162_163.out _; (with_reducible repeat (first | refine blk_drewN ?_ _ | refine blk_drew ?_ | refine blk_alloc ?_ _)); refine blk_far ?_ NB162_163.out _; (with_reducible repeat (first | refine blk_drewN ?_ _ | refine blk_drew ?_ | refine blk_alloc ?_ _)); refine blk_put (cs := #[.int .i64 t166, .int .i64 t167, .slice none 0 0]) ?_ 2 _ rfl; (with_reducible repeat (first | refine blk_drewN ?_ _ | refine blk_drew ?_ | refine blk_alloc ?_ _)); refine blk_put (cs := #[.int .i64 t166, .int .i64 x163001_2, .slice none 0 0]) ?_ 1 _ rfl; (with_reducible repeat (first | refine blk_drewN ?_ _ | refine blk_drew ?_ | refine blk_alloc ?_ _)); refine blk_put (cs := #[.int .i64 x163000_2, .int .i64 x163001_2, .slice none 0 0]) ?_ 0 _ rfl; (with_reducible repeat (first | refine blk_drewN ?_ _ | refine blk_drew ?_ | refine blk_alloc ?_ _)); exact BK162.out) Try.underlying63 rfl (by kernel_rfl) (.cell gb163 85 #[.int .i64 ((rd_T85 x162002_2 x7_2).f0), .int .i64 ((rd_T85 x162002_2 x7_2).f1), .int .i64 a1, .int .i64 t173, .bool ((rd_T85 x162002_2 x7_2).f4), .bool false] (0, 0) _ rfl (by (with_reducible repeat (first | refine blk_drewN ?_ _ | refine blk_drew ?_ | refine blk_alloc ?_ _)); refine blk_put (cs := #[.int .i64 ((rd_T85 x162002_2 x7_2).f0), .int .i64 ((rd_T85 x162002_2 x7_2).f1), .int .i64 a1, .int .i64 t173, .bool ((rd_T85 x162002_2 x7_2).f4), .bool x164005_2]) ?_ 5 _ rfl; (with_reducible repeat (first | refine blk_drewN ?_ _ | refine blk_drew ?_ | refine blk_alloc ?_ _)); refine blk_put (cs := #[.int .i64 ((rd_T85 x162002_2 x7_2).f0), .int .i64 ((rd_T85 x162002_2 x7_2).f1), .int .i64 a1, .int .i64 t173, .bool x164004_2, .bool x164005_2]) ?_ 4 _ rfl; (with_reducible repeat (first | refine blk_drewN ?_ _ | refine blk_drew ?_ | refine blk_alloc ?_ _)); refine blk_put (cs := #[.int .i64 ((rd_T85 x162002_2 x7_2).f0), .int .i64 ((rd_T85 x162002_2 x7_2).f1), .int .i64 a1, .int .i64 x164003_2, .bool x164004_2, .bool x164005_2]) ?_ 3 _ rfl; (with_reducible repeat (first | refine blk_drewN ?_ _ | refine blk_drew ?_ | refine blk_alloc ?_ _)); refine blk_put (cs := #[.int .i64 ((rd_T85 x162002_2 x7_2).f0), .int .i64 ((rd_T85 x162002_2 x7_2).f1), .int .i64 x164002_2, .int .i64 x164003_2, .bool x164004_2, .bool x164005_2]) ?_ 2 _ rfl; (with_reducible repeat (first | refine blk_drewN ?_ _ | refine blk_drew ?_ | refine blk_alloc ?_ _)); refine blk_put (cs := #[.int .i64 ((rd_T85 x162002_2 x7_2).f0), .int .i64 x164001_2, .int .i64 x164002_2, .int .i64 x164003_2, .bool x164004_2, .bool x164005_2]) ?_ 1 _ rfl; (with_reducible repeat (first | refine blk_drewN ?_ _ | refine blk_drew ?_ | refine blk_alloc ?_ _)); refine blk_put (cs := #[.int .i64 x164000_2, .int .i64 x164001_2, .int .i64 x164002_2, .int .i64 x164003_2, .bool x164004_2, .bool x164005_2]) ?_ 0 _ rfl; (with_reducible repeat (first | refine blk_drewN ?_ _ | refine blk_drew ?_ | refine blk_alloc ?_ _)); refine blk_far ?_ NB163_162.out _; (with_reducible repeat (first | refine blk_drewN ?_ _ | refine blk_drew ?_ | refine blk_alloc ?_ _)); refine blk_far ?_ NB163_162.out _; (with_reducible repeat (first | refine blk_drewN ?_ _ | refine blk_drew ?_ | refine blk_alloc ?_ _)); refine blk_far ?_ NB163_162.out _; (with_reducible repeat (first | refine blk_drewN ?_ _ | refine blk_drew ?_ | refine blk_alloc ?_ _)); exact BK163.out) Try.underlying85 rfl (by kernel_rfl) (.tmp .nil)))) rfl ?_
 exact ⟨_, by first | rfl | (simp [errW_none, errW_some] <;> rfl) | (simp [*, errW_none, errW_some] <;> rfl), by (with_reducible repeat (first | apply Kd.R_alloc | apply Kd.R_drewN | apply Kd.R_drew)); exact Kd.R_mono (Kd.R_far (p := ⟨gb163, 5, none⟩) (Kd.R_far (p := ⟨gb163, 4, none⟩) (Kd.R_far (p := ⟨gb163, 3, none⟩) (Kd.R_far (p := ⟨gb163, 2, none⟩) (Kd.R_far (p := ⟨gb163, 1, none⟩) (Kd.R_far (p := ⟨gb163, 0, none⟩) (Kd.R_far (p := ⟨gb162, 2, none⟩) (Kd.R_far (p := ⟨gb162, 1, none⟩) (Kd.R_far (p := ⟨gb162, 0, none⟩) (Kd.R_mono (Kd.R_types HO_162002.out BK162.out (by decide)) (fun k_ hk => (⟨hk, hk.1.1⟩ : _ ∧ k_ ≠ gb163))) (fun _ hk => hk.1.2) (.int .i64 t166)) (fun _ hk => hk.1.2) (.int .i64 t167)) (fun _ hk => hk.1.2) (.slice (some ⟨go2013, 0, none⟩) x162002_2.length co3004)) (fun _ hk => hk.2) (.int .i64 ((rd_T85 x162002_2 x7_2).f0))) (fun _ hk => hk.2) (.int .i64 ((rd_T85 x162002_2 x7_2).f1))) (fun _ hk => hk.2) (.int .i64 a1)) (fun _ hk => hk.2) (.int .i64 t173)) (fun _ hk => hk.2) (.bool ((rd_T85 x162002_2 x7_2).f4))) (fun _ hk => hk.2) (.bool false)) (fun _ hk => trivial), wB⟩
 }
 {
 go_roundg k2
 case measure => have := HJ2.out; have := HK2.out; omega
 case rel => exact ⟨(wrap64 (x7_2 + 1)), (x162002_2), (x163000_2), (x163001_2), (x164000_2), (x164001_2), (x164002_2), (x164003_2), (x164004_2), (x164005_2), (.slice (some ad171) x162002_2.length co3004), (by first | rfl | (simp; done) | (simp [*]; done)), H', ⟨by have := HJ2.out; have := HK2.out; omega⟩, ⟨Kd.R_mono (Rh HO_162002) (fun _ hk => hk.1)⟩, ⟨Bh BK161⟩, ⟨Bh BK162⟩, ⟨Bh BK163⟩, ⟨wB⟩⟩
 }
 {
 have hnb3005 := NB162_163.out
 have hnc3005 := NB163_162.out
 obtain ⟨⟨hcz3006_0, hcz3006_1, hcz3006_2⟩, hfz3006_0, hfz3006_1, hfz3006_2⟩ := cells3 BK162.out
 go_wp2_with (first | ((with_reducible refine gate_store (t := 63) (p := 4) rfl ?_); (try (rw [drewN_self wr]; generalize hq_ : World.drewN wr _ = wr; have n0_ := Aside0.mk (Kd.R_at hq_ HO_162002.out); have n1_ := Aside0.mk (blk_at hq_ BK161.out); have n2_ := Aside0.mk (blk_at hq_ BK162.out); have n3_ := Aside0.mk (blk_at hq_ BK163.out); have n4_ := Aside0.mk (below_at hq_ HB.out); clear hq_ HO_162002 BK161 BK162 BK163 HB; have HO_162002 := n0_; have BK161 := n1_; have BK162 := n2_; have BK163 := n3_; have HB := n4_; clear n0_ n1_ n2_ n3_ n4_; (try (obtain ⟨⟨hcyBK161_0, hcyBK161_1, hcyBK161_2⟩, hfyBK161_0, hfyBK161_1, hfyBK161_2⟩ := cells3 BK161.out)); (try (obtain ⟨⟨hcyBK162_0, hcyBK162_1, hcyBK162_2⟩, hfyBK162_0, hfyBK162_1, hfyBK162_2⟩ := cells3 BK162.out)); (try (obtain ⟨⟨hcyBK163_0, hcyBK163_1, hcyBK163_2, hcyBK163_3, hcyBK163_4, hcyBK163_5⟩, hfyBK163_0, hfyBK163_1, hfyBK163_2, hfyBK163_3, hfyBK163_4, hfyBK163_5⟩ := cells6 BK163.out)))); refine store_event (t := 63) (p := 4) (v := ?_) (w1 := (((wr.setCell ⟨gb162, 0, none⟩ (.int .i64 0)).setCell ⟨gb162, 1, none⟩ (.int .i64 0)).setCell ⟨gb162, 2, none⟩ (.slice none 0 0))) ?hg ?ho ?hn ?hr ?_; (case ho => rfl); (case hg => rfl); (case hn => rfl); (case hr => first | (go_simp; done) | (go_simp; rfl)); intro w3007 hw; have n0_ : Aside0 (Kd.R k85 85 w3007 w.heap.size (fun k_ => k_ ≠ gb163) (.slice Ao3004 x162002_2.length co3004) x162002_2) := ⟨(by rw [hw]; exact (by (with_reducible repeat (first | apply Kd.R_alloc | apply Kd.R_drewN | apply Kd.R_drew)); exact Kd.R_mono (Kd.R_far (p := ⟨gb162, 2, none⟩) (Kd.R_far (p := ⟨gb162, 1, none⟩) (Kd.R_far (p := ⟨gb162, 0, none⟩) (Kd.R_types HO_162002.out BK162.out (by decide)) (fun _ hk => hk.2) (.int .i64 0)) (fun _ hk => hk.2) (.int .i64 0)) (fun _ hk => hk.2) (.slice none 0 0)) (fun _ hk => hk.1)))⟩; have n1_ : Aside0 (w3007.heap[gb161]? = some (.cells #[.int .i64 t166, .int .i64 t167, .slice Ao3004 x162002_2.length co3004] 63 (0, 0))) := ⟨(by rw [hw]; exact (by (with_reducible repeat (first | refine blk_drewN ?_ _ | refine blk_drew ?_ | refine blk_alloc ?_ _)); refine blk_far ?_ NB161_162.out _; (with_reducible repeat (first | refine blk_drewN ?_ _ | refine blk_drew ?_ | refine blk_alloc ?_ _)); refine blk_far ?_ NB161_162.out _; (with_reducible repeat (first | refine blk_drewN ?_ _ | refine blk_drew ?_ | refine blk_alloc ?_ _)); refine blk_far ?_ NB161_162.out _; (with_reducible repeat (first | refine blk_drewN ?_ _ | refine blk_drew ?_ | refine blk_alloc ?_ _)); exact BK161.out))⟩; have n2_ : Aside0 (w3007.heap[gb162]? = some (.cells #[.int .i64 0, .int .i64 0, .slice none 0 0] 63 (0, 0))) := ⟨(by rw [hw]; exact (by (with_reducible repeat (first | refine blk_drewN ?_ _ | refine blk_drew ?_ | refine blk_alloc ?_ _)); refine blk_put (cs := #[.int .i64 0, .int .i64 0, .slice none 0 0]) ?_ 2 _ rfl; (with_reducible repeat (first | refine blk_drewN ?_ _ | refine blk_drew ?_ | refine blk_alloc ?_ _)); refine blk_put (cs := #[.int .i64 0, .int .i64 x163001_2, .slice none 0 0]) ?_ 1 _ rfl; (with_reducible repeat (first | refine blk_drewN ?_ _ | refine blk_drew ?_ | refine blk_alloc ?_ _)); refine blk_put (cs := #[.int .i64 x163000_2, .int .i64 x163001_2, .slice none 0 0]) ?_ 0 _ rfl; (with_reducible repeat (first | refine blk_drewN ?_ _ | refine blk_drew ?_ | refine blk_alloc ?_ _)); exact BK162.out))⟩; have n3_ : Aside0 (w3007.heap[gb163]? = some (.cells #[.int .i64 x164000_2, .int .i64 x164001_2, .int .i64 x164002_2, .int .i64 x164003_2, .bool x164004_2, .bool x164005_2] 85 (0, 0))) := ⟨(by rw [hw]; exact (by (with_reducible repeat (first | refine blk_drewN ?_ _ | refine blk_drew ?_ | refine blk_alloc ?_ _)); refine blk_far ?_ NB163_162.out _; (with_reducible repeat (first | refine blk_drewN ?_ _ | refine blk_drew ?_ | refine blk_alloc ?_ _)); refine blk_far ?_ NB163_162.out _; (with_reducible repeat (first | refine blk_drewN ?_ _ | refine blk_drew ?_ | refine blk_alloc ?_ _)); refine blk_far ?_ NB163_162.out _; (with_reducible repeat (first | refine blk_drewN ?_ _ | refine blk_drew ?_ | refine blk_alloc ?_ _)); exact BK163.out))⟩; have n4_ : Aside0 (Below w.heap.size w w3007) := ⟨(by rw [hw]; exact wB)⟩; clear hw; clear HO_162002; clear BK161; clear BK162; clear BK163; clear HB; have HO_162002 := n0_; have BK161 := n1_; have BK162 := n2_; have BK163 := n3_; have HB := n4_; clear n0_ n1_ n2_ n3_ n4_; obtain ⟨⟨hcz3008_0, hcz3008_1, hcz3008_2, hcz3008_3, hcz3008_4, hcz3008_5⟩, hfz3008_0, hfz3008_1, hfz3008_2, hfz3008_3, hfz3008_4, hfz3008_5⟩ := cells6 BK163.out) | ((with_reducible refine gate_store (t := 85) (p := 5) rfl ?_); (try (rw [drewN_self w3007]; generalize hq_ : World.drewN w3007 _ = w3007; have n0_ := Aside0.mk (Kd.R_at hq_ HO_162002.out); have n1_ := Aside0.mk (blk_at hq_ BK161.out); have n2_ := Aside0.mk (blk_at hq_ BK162.out); have n3_ := Aside0.mk (blk_at hq_ BK163.out); have n4_ := Aside0.mk (below_at hq_ HB.out); clear hq_ HO_162002 BK161 BK162 BK163 HB; have HO_162002 := n0_; have BK161 := n1_; have BK162 := n2_; have BK163 := n3_; have HB := n4_; clear n0_ n1_ n2_ n3_ n4_; (try (obtain ⟨⟨hcyBK161_0, hcyBK161_1, hcyBK161_2⟩, hfyBK161_0, hfyBK161_1, hfyBK161_2⟩ := cells3 BK161.out)); (try (obtain ⟨⟨hcyBK162_0, hcyBK162_1, hcyBK162_2⟩, hfyBK162_0, hfyBK162_1, hfyBK162_2⟩ := cells3 BK162.out)); (try (obtain ⟨⟨hcyBK163_0, hcyBK163_1, hcyBK163_2, hcyBK163_3, hcyBK163_4, hcyBK163_5⟩, hfyBK163_0, hfyBK163_1, hfyBK163_2, hfyBK163_3, hfyBK163_4, hfyBK163_5⟩ := cells6 BK163.out)))); refine store_event (t := 85) (p := 5) (v := ?_) (w1 := ((((((w3007.setCell ⟨gb163, 0, none⟩ (.int .i64 0)).setCell ⟨gb163, 1, none⟩ (.int .i64 0)).setCell ⟨gb163, 2, none⟩ (.int .i64 0)).setCell ⟨gb163, 3, none⟩ (.int .i64 0)).setCell ⟨gb163, 4, none⟩ (.bool false)).setCell ⟨gb163, 5, none⟩ (.bool false))) ?hg ?ho ?hn ?hr ?_; (case ho => rfl); (case hg => rfl); (case hn => rfl); (case hr => first | (go_simp; done) | (go_simp; rfl)); intro w3009 hw; have n0_ : Aside0 (Kd.R k85 85 w3009 w.heap.size (fun k_ => k_ ≠ gb163) (.slice Ao3004 x162002_2.length co3004) x162002_2) := ⟨(by rw [hw]; exact (by (with_reducible repeat (first | apply Kd.R_alloc | apply Kd.R_drewN | apply Kd.R_drew)); exact Kd.R_mono (Kd.R_far (p := ⟨gb163, 5, none⟩) (Kd.R_far (p := ⟨gb163, 4, none⟩) (Kd.R_far (p := ⟨gb163, 3, none⟩) (Kd.R_far (p := ⟨gb163, 2, none⟩) (Kd.R_far (p := ⟨gb163, 1, none⟩) (Kd.R_far (p := ⟨gb163, 0, none⟩) (Kd.R_mono HO_162002.out (fun k_ hk => (⟨hk, hk⟩ : _ ∧ k_ ≠ gb163))) (fun _ hk => hk.2) (.int .i64 0)) (fun _ hk => hk.2) (.int .i64 0)) (fun _ hk => hk.2) (.int .i64 0)) (fun _ hk => hk.2) (.int .i64 0)) (fun _ hk => hk.2) (.bool false)) (fun _ hk => hk.2) (.bool false)) (fun _ hk => hk.1)))⟩; have n1_ : Aside0 (w3009.heap[gb161]? = some (.cells #[.int .i64 t166, .int .i64 t167, .slice Ao3004 x162002_2.length co3004] 63 (0, 0))) := ⟨(by rw [hw]; exact (by (with_reducible repeat (first | refine blk_drewN ?_ _ | refine blk_drew ?_ | refine blk_alloc ?_ _)); refine blk_far ?_ NB161_163.out _; (with_reducible repeat (first | refine blk_drewN ?_ _ | refine blk_drew ?_ | refine blk_alloc ?_ _)); refine blk_far ?_ NB161_163.out _; (with_reducible repeat (first | refine blk_drewN ?_ _ | refine blk_drew ?_ | refine blk_alloc ?_ _)); refine blk_far ?_ NB161_163.out _; (with_reducible repeat (first | refine blk_drewN ?_ _ | refine blk_drew ?_ | refine blk_alloc ?_ _)); refine blk_far ?_ NB161_163.out _; (with_reducible repeat (first | refine blk_drewN ?_ _ | refine blk_drew ?_ | refine blk_alloc ?_ _)); refine blk_far ?_ NB161_163.out _; (with_reducible repeat (first | refine blk_drewN ?_ _ | refine blk_drew ?_ | refine blk_alloc ?_ _)); refine blk_far ?_ NB161_163.out _; (with_reducible repeat (first | refine blk_drewN ?_ _ | refine blk_drew ?_ | refine blk_alloc ?_ _)); exact BK161.out))⟩; have n2_ : Aside0 (w3009.heap[gb162]? = some (.cells #[.int .i64 0, .int .i64 0, .slice none 0 0] 63 (0, 0))) := ⟨(by rw [hw]; exact (by (with_reducible repeat (first | refine blk_drewN ?_ _ | refine blk_drew ?_ | refine blk_alloc ?_ _)); refine blk_far ?_ NB162_163.out _; (with_reducible repeat (first | refine blk_drewN ?_ _ | refine blk_drew ?_ | refine blk_alloc ?_ _)); refine blk_far ?_ NB162_163.out _; (with_reducible repeat (first | refine blk_drewN ?_ _ | refine blk_drew ?_ | refine blk_alloc ?_ _)); refine blk_far ?_ NB162_163.out _; (with_reducible repeat (first | refine blk_drewN ?_ _ | refine blk_drew ?_ | refine blk_alloc ?_ _)); refine blk_far ?_ NB162_163.out _; (with_reducible repeat (first | refine blk_drewN ?_ _ | refine blk_drew ?_ | refine blk_alloc ?_ _)); refine blk_far ?_ NB162_163.out _; (with_reducible repeat (first | refine blk_drewN ?_ _ | refine blk_drew ?_ | refine blk_alloc ?_ _)); refine blk_far ?_ NB162_163.out _; (with_reducible repeat (first | refine blk_drewN ?_ _ | refine blk_drew ?_ | refine blk_alloc ?_ _)); exact BK162.out))⟩; have n3_ : Aside0 (w3009.heap[gb163]? = some (.cells #[.int .i64 0, .int .i64 0, .int .i64 0, .int .i64 0, .bool false, .bool false] 85 (0, 0))) := ⟨(by rw [hw]; exact (by (with_reducible repeat (first | refine blk_drewN ?_ _ | refine blk_drew ?_ | refine blk_alloc ?_ _)); refine blk_put (cs := #[.int .i64 0, .int .i64 0, .int .i64 0, .int .i64 0, .bool false, .bool x164005_2]) ?_ 5 _ rfl; (with_reducible repeat (first | refine blk_drewN ?_ _ | refine blk_drew ?_ | refine blk_alloc ?_ _)); refine blk_put (cs := #[.int .i64 0, .int .i64 0, .int .i64 0, .int .i64 0, .bool x164004_2, .bool x164005_2]) ?_ 4 _ rfl; (with_reducible repeat (first | refine blk_drewN ?_ _ | refine blk_drew ?_ | refine blk_alloc ?_ _)); refine blk_put (cs := #[.int .i64 0, .int .i64 0, .int .i64 0, .int .i64 x164003_2, .bool x164004_2, .bool x164005_2]) ?_ 3 _ rfl; (with_reducible repeat (first | refine blk_drewN ?_ _ | refine blk_drew ?_ | refine blk_alloc ?_ _)); refine blk_put (cs := #[.int .i64 0, .int .i64 0, .int .i64 x164002_2, .int .i64 x164003_2, .bool x164004_2, .bool x164005_2]) ?_ 2 _ rfl; (with_reducible repeat (first | refine blk_drewN ?_ _ | refine blk_drew ?_ | refine blk_alloc ?_ _)); refine blk_put (cs := #[.int .i64 0, .int .i64 x164001_2, .int .i64 x164002_2, .int .i64 x164003_2, .bool x164004_2, .bool x164005_2]) ?_ 1 _ rfl; (with_reducible repeat (first | refine blk_drewN ?_ _ | refine blk_drew ?_ | refine blk_alloc ?_ _)); refine blk_put (cs := #[.int .i64 x164000_2, .int .i64 x164001_2, .int .i64 x164002_2, .int .i64 x164003_2, .bool x164004_2, .bool x164005_2]) ?_ 0 _ rfl; (with_reducible repeat (first | refine blk_drewN ?_ _ | refine blk_drew ?_ | refine blk_alloc ?_ _)); exact BK163.out))⟩; have n4_ : Aside0 (Below w.heap.size w w3009) := ⟨(by rw [hw]; exact wB)⟩; clear hw; clear HO_162002; clear BK161; clear BK162; clear BK163; clear HB; have HO_162002 := n0_; have BK161 := n1_; have BK162 := n2_; have BK163 := n3_; have HB := n4_; clear n0_ n1_ n2_ n3_ n4_))
 refine bodyPost_ret (results_list (rs := [.cell 4 63, .cell 5 85, .tmp 6]) rfl (by simp) (.cell gb162 63 #[.int .i64 0, .int .i64 0, .slice none 0 0] (0, 0) _ rfl (Bh BK162) Try.underlying63 rfl (by kernel_rfl) (.cell gb163 85 #[.int .i64 0, .int .i64 0, .int .i64 0, .int .i64 0, .bool false, .bool false] (0, 0) _ rfl (Bh BK163) Try.underlying85 rfl (by kernel_rfl) (.tmp .nil)))) rfl ?_
 exact ⟨_, by first | rfl | (simp [errW_none, errW_some] <;> rfl) | (simp [*, errW_none, errW_some] <;> rfl), by first | exact Kd.R_nil _ _ _ _ _ | exact Kd.N_nil _ _ _ _ _ | exact Kd.V_nil _ _ _ _ _ | exact Kd.Q_nil _ _ _ _ _ | exact Kd.S_nil _ _ _ _ _, wB⟩
 }
 }
 )
 }
 }
 )

/-! ### impl_okBoard: function 86 -/
mutual
def impl_okBoard.j0 : Nat → Bool → Int → Int → List (S85) → Option (Bool)
  | 0, _, _, _, _ => none
  | k + 1, x26, x176000, x176001, x176002 => if x26 = true then (some false) else (impl_okBoard.l0 k x176000 x176002 (x176002.length : Int) 0 x176000 x176001 x176002)
def impl_okBoard.l0 : Nat → Int → List (S85) → Int → Int → Int → Int → List (S85) → Option (Bool)
  | 0, _, _, _, _, _, _, _ => none
  | k + 1, x3, x30, x31, x32, x176000, x176001, x176002 => if x32 < x31 then (if 0 ≤ x32 then (if x32 < (x30.length : Int) then (if ((rd_T85 x30 x32).f0) = x3 then (if ((rd_T85 x30 x32).f1) ≤ ((rd_T85 x30 x32).f0) then (some false) else (if ((rd_T85 x30 x32).f2) < 0 then (some false) else (if ((rd_T85 x30 x32).f2) > 1000000000 then (some false) else (if ((rd_T85 x30 x32).f3) < 1 then (some false) else (if ((rd_T85 x30 x32).f3) > 1000000 then (some false) else (if (rd_T85 x30 x32).f4 = true then (if (rd_T85 x30 x32).f5 = true then (some false) else (impl_okBoard.l0 k ((rd_T85 x30 x32).f1) x30 x31 (wrap64 (x32 + 1)) x176000 x176001 x176002)) else (impl_okBoard.l0 k ((rd_T85 x30 x32).f1) x30 x31 (wrap64 (x32 + 1)) x176000 x176001 x176002))))))) else (some false)) else (none)) else (none)) else (some (x3 == x176001))
end
def impl_okBoard.f (k : Nat) (a0_0 : Int) (a0_1 : Int) (l0_2 : List (S85)) : Option (Bool) := if a0_0 < 0 then (impl_okBoard.j0 k true a0_0 a0_1 l0_2) else (if a0_0 > a0_1 then (impl_okBoard.j0 k true a0_0 a0_1 l0_2) else (if a0_1 > 1099511627776 then (impl_okBoard.j0 k true a0_0 a0_1 l0_2) else (impl_okBoard.j0 k (decide ((l0_2.length : Int) > 4096)) a0_0 a0_1 l0_2)))
theorem impl_okBoard.mono_l : ∀ k, (∀ y0 y1 y2 y3, LeO (impl_okBoard.j0 k y0 y1 y2 y3) (impl_okBoard.j0 (k + 1) y0 y1 y2 y3)) ∧ (∀ y0 y1 y2 y3 y4 y5 y6, LeO (impl_okBoard.l0 k y0 y1 y2 y3 y4 y5 y6) (impl_okBoard.l0 (k + 1) y0 y1 y2 y3 y4 y5 y6))
  | 0 => ⟨fun _ _ _ _ r h => by simp [impl_okBoard.j0] at h, fun _ _ _ _ _ _ _ r h => by simp [impl_okBoard.l0] at h⟩
  | k + 1 => by
    obtain ⟨ih0, ih1⟩ := impl_okBoard.mono_l k
    refine ⟨?_, ?_⟩
    · intro y0 y1 y2 y3
      unfold impl_okBoard.j0
      repeat' first
      | (with_reducible exact ih0 _ _ _ _)
      | (with_reducible exact ih1 _ _ _ _ _ _ _)
      | (with_reducible exact LeO.refl _)
      | (with_reducible exact LeO.none _)
      | (with_reducible refine LeO.ite ?_ ?_)
      | (with_reducible refine LeO.bind ?_ (fun _ => ?_))
      | exact ih0 _ _ _ _
      | exact ih1 _ _ _ _ _ _ _
      | exact LeO.none _
      | refine LeO.ite ?_ ?_
      | refine LeO.bind ?_ (fun _ => ?_)
    · intro y0 y1 y2 y3 y4 y5 y6
      unfold impl_okBoard.l0
      repeat' first
      | (with_reducible exact ih0 _ _ _ _)
      | (with_reducible exact ih1 _ _ _ _ _ _ _)
      | (with_reducible exact LeO.refl _)
      | (with_reducible exact LeO.none _)
      | (with_reducible refine LeO.ite ?_ ?_)
      | (with_reducible refine LeO.bind ?_ (fun _ => ?_))
      | exact ih0 _ _ _ _
      | exact ih1 _ _ _ _ _ _ _
      | exact LeO.none _
      | refine LeO.ite ?_ ?_
      | refine LeO.bind ?_ (fun _ => ?_)
theorem impl_okBoard.mono : ∀ a0 a1 a2 k, LeO (impl_okBoard.f k a0 a1 a2) (impl_okBoard.f (k + 1) a0 a1 a2) := by
 intro a0 a1 a2 k
 obtain ⟨ih0, ih1⟩ := impl_okBoard.mono_l k
 unfold impl_okBoard.f
 repeat' first
     | (with_reducible exact ih0 _ _ _ _)
     | (with_reducible exact ih1 _ _ _ _ _ _ _)
     | (with_reducible exact LeO.refl _)
     | (with_reducible exact LeO.none _)
     | (with_reducible refine LeO.ite ?_ ?_)
     | (with_reducible refine LeO.bind ?_ (fun _ => ?_))
     | exact ih0 _ _ _ _
     | exact ih1 _ _ _ _ _ _ _
     | exact LeO.none _
     | refine LeO.ite ?_ ?_
     | refine LeO.bind ?_ (fun _ => ?_)
set_option maxHeartbeats 60000000 in
set_option maxRecDepth 100000 in
theorem impl_okBoard.calls (k : Nat) (a0_0 : Int) (a0_1 : Int) (A0_2 : Option Addr) (c0_2 : Nat) (l0_2 : List (S85)) (r : Bool) (w : World) (hr0_2 : Kd.C k85 w A0_2 l0_2.length l0_2) (hc0_2 : l0_2.length ≤ c0_2) (h : impl_okBoard.f k a0_0 a0_1 l0_2 = some r) :
 Calls Try.prog 86 #[.agg #[.int .i64 a0_0, .int .i64 a0_1, .slice A0_2 l0_2.length c0_2]] w fun e w' => e = .returned (.bool r) ∧ Below w.heap.size w w' := by
 have hu63 := Try.underlying63
 have hu85 := Try.underlying85
 have HR0_2 := Aside0.mk hr0_2
 have HC0_2 := Aside0.mk hc0_2
 clear hr0_2 hc0_2
 have HB := Aside0.mk (Below.refl w.heap.size w)
 have H : (if a0_0 < 0 then (impl_okBoard.j0 k true a0_0 a0_1 l0_2) else (if a0_0 > a0_1 then (impl_okBoard.j0 k true a0_0 a0_1 l0_2) else (if a0_1 > 1099511627776 then (impl_okBoard.j0 k true a0_0 a0_1 l0_2) else (impl_okBoard.j0 k (decide ((l0_2.length : Int) > 4096)) a0_0 a0_1 l0_2)))) = some r := h
 clear h
 have HC2 := Aside0.mk H
 clear H
 go_enter Try.func86, Try.ntmps86
 go_upto_region 1 with (first | ((with_reducible refine gate_dst (N := 1) rfl ?_); (try (refine gate_guard (by rfl) ?_; dsimp only)); refine box_event ?hg (N := 1) ?hd (cs := #[.int .i64 a0_0, .int .i64 a0_1, .slice A0_2 l0_2.length c0_2]) (t := 63) ?hr ?_; (case hd => rfl); (case hg => rfl); (case hr => first | (go_simp; done) | (go_simp; rfl)); intro gb175 hg w1001 hbox hb; have n0_ := Aside0.mk (below_step wB hb); have n1_ := Aside0.mk (hbox); have n2_ := Aside0.mk ((by rw [hg]; exact (below_size wB) : w.heap.size ≤ gb175)); have n3_ := Aside0.mk ((by rw [hg]; exact (below_size wB) : w.heap.size ≤ gb175)); clear HB; have HB := n0_; have BK175 := n1_; have GW175 := n2_; have GE175 := n3_; clear n0_ n1_ n2_ n3_; clear hb hbox hg))
 (try simp only [Act.put, List.setIfInBounds_toArray, List.set_cons_zero, List.set_cons_succ])
 go_cut [26] (fun v26 wc => ∃ (kq : Nat) (x26_1 : Bool), v26 = .bool x26_1 ∧ Aside0 (impl_okBoard.j0 kq x26_1 a0_0 a0_1 l0_2 = some r) ∧ Aside0 (kq ≤ k) ∧ Aside0 (wc.heap[gb175]? = some (.cells #[.int .i64 a0_0, .int .i64 a0_1, (.slice A0_2 l0_2.length c0_2)] 63 (0, 0))) ∧ Aside0 (Below w.heap.size w wc))
 case first => (
 have H := HC2.out
 clear HC2
 by_cases c1002 : a0_0 < 0
 rw [if_pos c1002] at H
 have c1002b0 : decide (a0_0 < 0) = true := decide_eq_true c1002
 clear c1002
 (first | rw [c1002b0] | (simp only [i64_w, i32_w]; rw [c1002b0]) | skip)
 have H' := Aside0.mk H
 clear H
 rotate_left
 rw [if_neg c1002] at H
 have c1002b0 : decide (a0_0 < 0) = false := decide_eq_false c1002
 clear c1002
 (first | rw [c1002b0] | (simp only [i64_w, i32_w]; rw [c1002b0]) | skip)
 by_cases c1003 : a0_0 > a0_1
 rw [if_pos c1003] at H
 have c1003b0 : decide (a0_1 < a0_0) = true := decide_eq_true c1003
 clear c1003
 have H' := Aside0.mk H
 clear H
 rotate_left
 rw [if_neg c1003] at H
 have c1003b0 : decide (a0_1 < a0_0) = false := decide_eq_false c1003
 clear c1003
 by_cases c1004 : a0_1 > 1099511627776
 rw [if_pos c1004] at H
 have c1004b0 : decide (1099511627776 < a0_1) = true := decide_eq_true c1004
 clear c1004
 have H' := Aside0.mk H
 clear H
 rotate_left
 rw [if_neg c1004] at H
 have c1004b0 : decide (1099511627776 < a0_1) = false := decide_eq_false c1004
 clear c1004
 have H' := Aside0.mk H
 clear H
 rotate_left
 all_goals (
 obtain ⟨⟨hcz2001_0, hcz2001_1, hcz2001_2⟩, hfz2001_0, hfz2001_1, hfz2001_2⟩ := cells3 BK175.out
 go_wp2
 all_goals (try (rename_i h_; exfalso; cases h_; done))
 all_goals (try (rename_i h_ h2_; exfalso; cases h_; done))
 go_meet
 )
 iterate 3 (
 focus (
 case rel => exact ⟨_, (true), (by first | rfl | (simp; done) | (simp [*]; done)), H', ⟨by first | omega | exact Nat.le_refl _⟩, ⟨Bh BK175⟩, ⟨wB⟩⟩
 )
 )
 {
 case rel => exact ⟨_, (decide ((l0_2.length : Int) > 4096)), (by first | rfl | (simp; done) | (simp [*]; done)), H', ⟨by first | omega | exact Nat.le_refl _⟩, ⟨Bh BK175⟩, ⟨wB⟩⟩
 }
 )
 case rest => (
 clear HC2
 try clear c0
 try clear c1002
 try clear c1002b0
 try clear c1003
 try clear c1003b0
 try clear c1004
 try clear c1004b0
 try clear hcz2001_0 hcz2001_1 hcz2001_2 hfz2001_0 hfz2001_1 hfz2001_2
 obtain ⟨kq, x26_1, rfl, HA, HJ1, BK175, HB⟩ := hcut
 cases kq with
 | zero => exact absurd HA.out (by simp [impl_okBoard.j0])
 | succ kj1 => {
 have H := HA.out
 clear HA
 simp only [impl_okBoard.j0] at H
 by_cases c1005 : x26_1 = true
 {
 subst c1005
 have H1 : (some false) = some r := by rw [if_pos rfl] at H; exact H
 clear H
 have H := H1
 clear H1
 obtain rfl := Option.some.inj H
 go_wp2
 all_goals (try (rename_i h_; exfalso; cases h_; done))
 all_goals (try (rename_i h_ h2_; exfalso; cases h_; done))
 go_ret
 exact ⟨by first | rfl | (simp [errW_none, errW_some] <;> rfl) | (simp [*, errW_none, errW_some] <;> rfl), wB⟩
 }
 {
 replace c1005 := Bool.eq_false_iff.mpr c1005
 subst c1005
 have H1 : (impl_okBoard.l0 kj1 a0_0 l0_2 (l0_2.length : Int) 0 a0_0 a0_1 l0_2) = some r := by rw [if_neg (show ¬ (false = true) by decide)] at H; exact H
 clear H
 have H := H1
 clear H1
 have H' := Aside0.mk H
 clear H
 obtain ⟨⟨hcz2001_0, hcz2001_1, hcz2001_2⟩, hfz2001_0, hfz2001_1, hfz2001_2⟩ := cells3 BK175.out
 go_wp2
 all_goals (try (rename_i h_; exfalso; cases h_; done))
 all_goals (try (rename_i h_ h2_; exfalso; cases h_; done))
 go_loopg [3, 32] kj1 (fun kq v3 v32 w' => ∃ (x3_2 : Int) (x32_2 : Int), v3 = .int .i64 x3_2 ∧ v32 = .int .i64 x32_2 ∧ Aside0 (impl_okBoard.l0 kq x3_2 l0_2 (l0_2.length : Int) x32_2 a0_0 a0_1 l0_2 = some r) ∧ Aside0 (kq ≤ kj1) ∧ Aside0 (w'.heap[gb175]? = some (.cells #[.int .i64 a0_0, .int .i64 a0_1, (.slice A0_2 l0_2.length c0_2)] 63 (0, 0))) ∧ Aside0 (Below w.heap.size w w'))
 case atStart => exact ⟨(a0_0), (0), (by first | rfl | (simp; done) | (simp [*]; done)), (by first | rfl | (simp; done) | (simp [*]; done)), H', ⟨Nat.le_refl _⟩, ⟨Bh BK175⟩, ⟨wB⟩⟩
 case round => (
 clear H'
 try clear c0
 try clear c1002
 try clear c1002b0
 try clear c1003
 try clear c1003b0
 try clear c1004
 try clear c1004b0
 try clear c1005
 try clear hcz2001_0 hcz2001_1 hcz2001_2 hfz2001_0 hfz2001_1 hfz2001_2
 obtain ⟨x3_2, x32_2, rfl, rfl, HA, HK2, BK175, HB⟩ := hrel
 cases gk with
 | zero => exact absurd HA.out (by simp [impl_okBoard.l0])
 | succ k2 => {
 have H := HA.out
 clear HA
 simp only [impl_okBoard.l0] at H
 by_cases c2002 : x32_2 < (l0_2.length : Int)
 rw [if_pos c2002] at H
 have c2002b0 : decide (x32_2 < (l0_2.length : Int)) = true := decide_eq_true c2002
 clear c2002
 by_cases c2003 : 0 ≤ x32_2
 rw [if_pos c2003] at H
 have c2003b0 : decide (0 ≤ x32_2) = true := decide_eq_true c2003
 clear c2003
 by_cases c2004 : x32_2 < (l0_2.length : Int)
 rw [if_pos c2004] at H
 have c2004b0 : decide (x32_2 < (l0_2.length : Int)) = true := decide_eq_true c2004
 clear c2004
 by_cases c2005 : ((rd_T85 l0_2 x32_2).f0) = x3_2
 rw [if_pos c2005] at H
 have c2005b0 : (((rd_T85 l0_2 x32_2).f0) == x3_2) = true := beq_iff_eq.mpr c2005
 have c2005b1 : (((rd_T85 l0_2 x32_2).f0) != x3_2) = false := bne_eq_false_iff_eq.mpr c2005
 clear c2005
 by_cases c2006 : ((rd_T85 l0_2 x32_2).f1) ≤ ((rd_T85 l0_2 x32_2).f0)
 rw [if_pos c2006] at H
 have c2006b0 : decide (((rd_T85 l0_2 x32_2).f1) ≤ ((rd_T85 l0_2 x32_2).f0)) = true := decide_eq_true c2006
 clear c2006
 obtain rfl := Option.some.inj H
 rotate_left
 rw [if_neg c2006] at H
 have c2006b0 : decide (((rd_T85 l0_2 x32_2).f1) ≤ ((rd_T85 l0_2 x32_2).f0)) = false := decide_eq_false c2006
 clear c2006
 by_cases c2007 : ((rd_T85 l0_2 x32_2).f2) < 0
 rw [if_pos c2007] at H
 have c2007b0 : decide (((rd_T85 l0_2 x32_2).f2) < 0) = true := decide_eq_true c2007
 clear c2007
 obtain rfl := Option.some.inj H
 rotate_left
 rw [if_neg c2007] at H
 have c2007b0 : decide (((rd_T85 l0_2 x32_2).f2) < 0) = false := decide_eq_false c2007
 clear c2007
 by_cases c2008 : ((rd_T85 l0_2 x32_2).f2) > 1000000000
 rw [if_pos c2008] at H
 have c2008b0 : decide (1000000000 < ((rd_T85 l0_2 x32_2).f2)) = true := decide_eq_true c2008
 clear c2008
 obtain rfl := Option.some.inj H
 rotate_left
 rw [if_neg c2008] at H
 have c2008b0 : decide (1000000000 < ((rd_T85 l0_2 x32_2).f2)) = false := decide_eq_false c2008
 clear c2008
 by_cases c2009 : ((rd_T85 l0_2 x32_2).f3) < 1
 rw [if_pos c2009] at H
 have c2009b0 : decide (((rd_T85 l0_2 x32_2).f3) < 1) = true := decide_eq_true c2009
 clear c2009
 obtain rfl := Option.some.inj H
 rotate_left
 rw [if_neg c2009] at H
 have c2009b0 : decide (((rd_T85 l0_2 x32_2).f3) < 1) = false := decide_eq_false c2009
 clear c2009
 by_cases c2010 : ((rd_T85 l0_2 x32_2).f3) > 1000000
 rw [if_pos c2010] at H
 have c2010b0 : decide (1000000 < ((rd_T85 l0_2 x32_2).f3)) = true := decide_eq_true c2010
 clear c2010
 obtain rfl := Option.some.inj H
 rotate_left
 rw [if_neg c2010] at H
 have c2010b0 : decide (1000000 < ((rd_T85 l0_2 x32_2).f3)) = false := decide_eq_false c2010
 clear c2010
 obtain ⟨bq2011, hbq2011⟩ : ∃ b_ : Bool, b_ = ((rd_T85 l0_2 x32_2).f4) := ⟨_, rfl⟩
 replace H : (if bq2011 = true then (if (rd_T85 l0_2 x32_2).f5 = true then (some false) else (impl_okBoard.l0 k2 ((rd_T85 l0_2 x32_2).f1) l0_2 (l0_2.length : Int) (wrap64 (x32_2 + 1)) a0_0 a0_1 l0_2)) else (impl_okBoard.l0 k2 ((rd_T85 l0_2 x32_2).f1) l0_2 (l0_2.length : Int) (wrap64 (x32_2 + 1)) a0_0 a0_1 l0_2)) = some r := by rw [← hbq2011] at H; exact H
 have Nbq2011 := Aside0.mk hbq2011
 clear hbq2011
 by_cases c2012 : bq2011 = true
 subst c2012
 have H1 : (if (rd_T85 l0_2 x32_2).f5 = true then (some false) else (impl_okBoard.l0 k2 ((rd_T85 l0_2 x32_2).f1) l0_2 (l0_2.length : Int) (wrap64 (x32_2 + 1)) a0_0 a0_1 l0_2)) = some r := by rw [if_pos rfl] at H; exact H
 clear H
 have H := H1
 clear H1
 obtain ⟨bq2013, hbq2013⟩ : ∃ b_ : Bool, b_ = ((rd_T85 l0_2 x32_2).f5) := ⟨_, rfl⟩
 replace H : (if bq2013 = true then (some false) else (impl_okBoard.l0 k2 ((rd_T85 l0_2 x32_2).f1) l0_2 (l0_2.length : Int) (wrap64 (x32_2 + 1)) a0_0 a0_1 l0_2)) = some r := by rw [← hbq2013] at H; exact H
 have Nbq2013 := Aside0.mk hbq2013
 clear hbq2013
 by_cases c2014 : bq2013 = true
 subst c2014
 have H1 : (some false) = some r := by rw [if_pos rfl] at H; exact H
 clear H
 have H := H1
 clear H1
 obtain rfl := Option.some.inj H
 have bq1_ : True := trivial
 rotate_left
 replace c2014 := Bool.eq_false_iff.mpr c2014
 subst c2014
 have H1 : (impl_okBoard.l0 k2 ((rd_T85 l0_2 x32_2).f1) l0_2 (l0_2.length : Int) (wrap64 (x32_2 + 1)) a0_0 a0_1 l0_2) = some r := by rw [if_neg (show ¬ (false = true) by decide)] at H; exact H
 clear H
 have H := H1
 clear H1
 have H' := Aside0.mk H
 clear H
 rotate_left
 replace c2012 := Bool.eq_false_iff.mpr c2012
 subst c2012
 have H1 : (impl_okBoard.l0 k2 ((rd_T85 l0_2 x32_2).f1) l0_2 (l0_2.length : Int) (wrap64 (x32_2 + 1)) a0_0 a0_1 l0_2) = some r := by rw [if_neg (show ¬ (false = true) by decide)] at H; exact H
 clear H
 have H := H1
 clear H1
 have H' := Aside0.mk H
 clear H
 rotate_left
 rw [if_neg c2005] at H
 have c2005b0 : (((rd_T85 l0_2 x32_2).f0) == x3_2) = false := beq_eq_false_iff_ne.mpr c2005
 have c2005b1 : (((rd_T85 l0_2 x32_2).f0) != x3_2) = true := bne_iff_ne.mpr c2005
 obtain rfl := Option.some.inj H
 rotate_left
 rw [if_neg c2004] at H
 exact absurd H (by simp)
 rw [if_neg c2003] at H
 exact absurd H (by simp)
 rw [if_neg c2002] at H
 have c2002b0 : decide (x32_2 < (l0_2.length : Int)) = false := decide_eq_false c2002
 clear c2002
 obtain rfl := Option.some.inj H
 rotate_left
 iterate 9 (
 focus (
 have p176 : 0 ≤ (x32_2 : Int) := of_decide_eq_true (by first | (with_reducible assumption) | assumption)
 have q176 : x32_2 < (l0_2.length : Int) := of_decide_eq_true (by first | (with_reducible assumption) | assumption)
 obtain ⟨ad176, e176, hx176_0, hx176_1, hx176_2, hx176_3, hx176_4, hx176_5⟩ := at_T85 HR0_2.out x32_2 p176 q176
 )
 rotate_left
 )
 rotate_right 9
 iterate 5 (
 focus (
 cases e176
 replace hx176_0 := (HB.out.cell (World.block_lt_of_cell? w _ hx176_0)).trans hx176_0
 replace hx176_1 := (HB.out.cell (World.block_lt_of_cell? w _ hx176_1)).trans hx176_1
 replace hx176_2 := (HB.out.cell (World.block_lt_of_cell? w _ hx176_2)).trans hx176_2
 replace hx176_3 := (HB.out.cell (World.block_lt_of_cell? w _ hx176_3)).trans hx176_3
 replace hx176_4 := (HB.out.cell (World.block_lt_of_cell? w _ hx176_4)).trans hx176_4
 replace hx176_5 := (HB.out.cell (World.block_lt_of_cell? w _ hx176_5)).trans hx176_5
 replace p176 := eq_true p176
 replace q176 := eq_true q176
 go_wp2_with (first | ((with_reducible refine gate_dst (N := 5) rfl ?_); (try (refine gate_guard (by rfl) ?_; dsimp only)); refine box_event ?hg (N := 5) ?hd (cs := #[.int .i64 0, .int .i64 0, .int .i64 0, .int .i64 0, .bool false, .bool false]) (t := 85) ?hr ?_; (case hd => rfl); (case hg => rfl); (case hr => first | (go_simp; done) | (go_simp; rfl)); intro gb177 hg w3001 hbox hb; have n0_ := Aside0.mk (blk_below (Bh BK175) hb); have n1_ := Aside0.mk (below_step wB hb); have n2_ := Aside0.mk (hbox); have n3_ := Aside0.mk ((by rw [hg]; exact (below_size wB) : w.heap.size ≤ gb177)); have n4_ := Aside0.mk ((by rw [hg]; exact (below_size wB) : w.heap.size ≤ gb177)); have n5_ := Aside0.mk ((by rw [hg]; exact Nat.ne_of_lt (blk_lt (Bh BK175)) : gb175 ≠ gb177)); have n6_ := Aside0.mk ((by rw [hg]; exact Nat.ne_of_gt (blk_lt (Bh BK175)) : gb177 ≠ gb175)); clear BK175; clear HB; have BK175 := n0_; have HB := n1_; have BK177 := n2_; have GW177 := n3_; have GE177 := n4_; have NB175_177 := n5_; have NB177_175 := n6_; clear n0_ n1_ n2_ n3_ n4_ n5_ n6_; clear hb hbox hg; have hnb3002 := NB177_175.out; have hnc3002 := NB175_177.out; obtain ⟨⟨hcz3003_0, hcz3003_1, hcz3003_2, hcz3003_3, hcz3003_4, hcz3003_5⟩, hfz3003_0, hfz3003_1, hfz3003_2, hfz3003_3, hfz3003_4, hfz3003_5⟩ := cells6 BK177.out) | ((with_reducible refine gate_store (t := 85) (p := 5) rfl ?_); refine store_event (t := 85) (p := 5) (v := ?_) (w1 := ((((((w3001.setCell ⟨gb177, 0, none⟩ (.int .i64 ((rd_T85 l0_2 x32_2).f0))).setCell ⟨gb177, 1, none⟩ (.int .i64 ((rd_T85 l0_2 x32_2).f1))).setCell ⟨gb177, 2, none⟩ (.int .i64 ((rd_T85 l0_2 x32_2).f2))).setCell ⟨gb177, 3, none⟩ (.int .i64 ((rd_T85 l0_2 x32_2).f3))).setCell ⟨gb177, 4, none⟩ (.bool ((rd_T85 l0_2 x32_2).f4))).setCell ⟨gb177, 5, none⟩ (.bool ((rd_T85 l0_2 x32_2).f5)))) ?hg ?ho ?hn ?hr ?_; (case ho => rfl); (case hg => rfl); (case hn => rfl); (case hr => first | (go_simp; done) | (go_simp; rfl)); intro w3004 hw; have n0_ : Aside0 (w3004.heap[gb175]? = some (.cells #[.int .i64 a0_0, .int .i64 a0_1, .slice (some ad176) l0_2.length c0_2] 63 (0, 0))) := ⟨(by rw [hw]; exact (by (with_reducible repeat (first | refine blk_drewN ?_ _ | refine blk_drew ?_ | refine blk_alloc ?_ _)); refine blk_far ?_ NB175_177.out _; (with_reducible repeat (first | refine blk_drewN ?_ _ | refine blk_drew ?_ | refine blk_alloc ?_ _)); refine blk_far ?_ NB175_177.out _; (with_reducible repeat (first | refine blk_drewN ?_ _ | refine blk_drew ?_ | refine blk_alloc ?_ _)); refine blk_far ?_ NB175_177.out _; (with_reducible repeat (first | refine blk_drewN ?_ _ | refine blk_drew ?_ | refine blk_alloc ?_ _)); refine blk_far ?_ NB175_177.out _; (with_reducible repeat (first | refine blk_drewN ?_ _ | refine blk_drew ?_ | refine blk_alloc ?_ _)); refine blk_far ?_ NB175_177.out _; (with_reducible repeat (first | refine blk_drewN ?_ _ | refine blk_drew ?_ | refine blk_alloc ?_ _)); refine blk_far ?_ NB175_177.out _; (with_reducible repeat (first | refine blk_drewN ?_ _ | refine blk_drew ?_ | refine blk_alloc ?_ _)); exact BK175.out))⟩; have n1_ : Aside0 (w3004.heap[gb177]? = some (.cells #[.int .i64 ((rd_T85 l0_2 x32_2).f0), .int .i64 ((rd_T85 l0_2 x32_2).f1), .int .i64 ((rd_T85 l0_2 x32_2).f2), .int .i64 ((rd_T85 l0_2 x32_2).f3), .bool ((rd_T85 l0_2 x32_2).f4), .bool ((rd_T85 l0_2 x32_2).f5)] 85 (0, 0))) := ⟨(by rw [hw]; exact (by (with_reducible repeat (first | refine blk_drewN ?_ _ | refine blk_drew ?_ | refine blk_alloc ?_ _)); refine blk_put (cs := #[.int .i64 ((rd_T85 l0_2 x32_2).f0), .int .i64 ((rd_T85 l0_2 x32_2).f1), .int .i64 ((rd_T85 l0_2 x32_2).f2), .int .i64 ((rd_T85 l0_2 x32_2).f3), .bool ((rd_T85 l0_2 x32_2).f4), .bool false]) ?_ 5 _ rfl; (with_reducible repeat (first | refine blk_drewN ?_ _ | refine blk_drew ?_ | refine blk_alloc ?_ _)); refine blk_put (cs := #[.int .i64 ((rd_T85 l0_2 x32_2).f0), .int .i64 ((rd_T85 l0_2 x32_2).f1), .int .i64 ((rd_T85 l0_2 x32_2).f2), .int .i64 ((rd_T85 l0_2 x32_2).f3), .bool false, .bool false]) ?_ 4 _ rfl; (with_reducible repeat (first | refine blk_drewN ?_ _ | refine blk_drew ?_ | refine blk_alloc ?_ _)); refine blk_put (cs := #[.int .i64 ((rd_T85 l0_2 x32_2).f0), .int .i64 ((rd_T85 l0_2 x32_2).f1), .int .i64 ((rd_T85 l0_2 x32_2).f2), .int .i64 0, .bool false, .bool false]) ?_ 3 _ rfl; (with_reducible repeat (first | refine blk_drewN ?_ _ | refine blk_drew ?_ | refine blk_alloc ?_ _)); refine blk_put (cs := #[.int .i64 ((rd_T85 l0_2 x32_2).f0), .int .i64 ((rd_T85 l0_2 x32_2).f1), .int .i64 0, .int .i64 0, .bool false, .bool false]) ?_ 2 _ rfl; (with_reducible repeat (first | refine blk_drewN ?_ _ | refine blk_drew ?_ | refine blk_alloc ?_ _)); refine blk_put (cs := #[.int .i64 ((rd_T85 l0_2 x32_2).f0), .int .i64 0, .int .i64 0, .int .i64 0, .bool false, .bool false]) ?_ 1 _ rfl; (with_reducible repeat (first | refine blk_drewN ?_ _ | refine blk_drew ?_ | refine blk_alloc ?_ _)); refine blk_put (cs := #[.int .i64 0, .int .i64 0, .int .i64 0, .int .i64 0, .bool false, .bool false]) ?_ 0 _ rfl; (with_reducible repeat (first | refine blk_drewN ?_ _ | refine blk_drew ?_ | refine blk_alloc ?_ _)); exact BK177.out))⟩; have n2_ : Aside0 (Below w.heap.size w w3004) := ⟨(by rw [hw]; exact wB)⟩; clear hw; clear BK175; clear BK177; clear HB; have BK175 := n0_; have BK177 := n1_; have HB := n2_; clear n0_ n1_ n2_; obtain ⟨⟨hcz3005_0, hcz3005_1, hcz3005_2, hcz3005_3, hcz3005_4, hcz3005_5⟩, hfz3005_0, hfz3005_1, hfz3005_2, hfz3005_3, hfz3005_4, hfz3005_5⟩ := cells6 BK177.out))
 all_goals (try (rename_i h_; exfalso; cases h_; done))
 all_goals (try (rename_i h_ h2_; exfalso; cases h_; done))
 go_ret
 exact ⟨by first | rfl | (simp [errW_none, errW_some] <;> rfl) | (simp [*, errW_none, errW_some] <;> rfl), wB⟩
 )
 )
 iterate 3 (
 focus (
 (try rw [← Nbq2011.out] at hx176_4)
 )
 rotate_left
 )
 rotate_right 3
 iterate 2 (
 focus (
 (try rw [← Nbq2013.out] at hx176_4)
 (try rw [← Nbq2011.out] at hx176_5)
 (try rw [← Nbq2013.out] at hx176_5)
 cases e176
 replace hx176_0 := (HB.out.cell (World.block_lt_of_cell? w _ hx176_0)).trans hx176_0
 replace hx176_1 := (HB.out.cell (World.block_lt_of_cell? w _ hx176_1)).trans hx176_1
 replace hx176_2 := (HB.out.cell (World.block_lt_of_cell? w _ hx176_2)).trans hx176_2
 replace hx176_3 := (HB.out.cell (World.block_lt_of_cell? w _ hx176_3)).trans hx176_3
 replace hx176_4 := (HB.out.cell (World.block_lt_of_cell? w _ hx176_4)).trans hx176_4
 replace hx176_5 := (HB.out.cell (World.block_lt_of_cell? w _ hx176_5)).trans hx176_5
 replace p176 := eq_true p176
 replace q176 := eq_true q176
 go_wp2_with (first | ((with_reducible refine gate_dst (N := 5) rfl ?_); (try (refine gate_guard (by rfl) ?_; dsimp only)); refine box_event ?hg (N := 5) ?hd (cs := #[.int .i64 0, .int .i64 0, .int .i64 0, .int .i64 0, .bool false, .bool false]) (t := 85) ?hr ?_; (case hd => rfl); (case hg => rfl); (case hr => first | (go_simp; done) | (go_simp; rfl)); intro gb177 hg w3001 hbox hb; have n0_ := Aside0.mk (blk_below (Bh BK175) hb); have n1_ := Aside0.mk (below_step wB hb); have n2_ := Aside0.mk (hbox); have n3_ := Aside0.mk ((by rw [hg]; exact (below_size wB) : w.heap.size ≤ gb177)); have n4_ := Aside0.mk ((by rw [hg]; exact (below_size wB) : w.heap.size ≤ gb177)); have n5_ := Aside0.mk ((by rw [hg]; exact Nat.ne_of_lt (blk_lt (Bh BK175)) : gb175 ≠ gb177)); have n6_ := Aside0.mk ((by rw [hg]; exact Nat.ne_of_gt (blk_lt (Bh BK175)) : gb177 ≠ gb175)); clear BK175; clear HB; have BK175 := n0_; have HB := n1_; have BK177 := n2_; have GW177 := n3_; have GE177 := n4_; have NB175_177 := n5_; have NB177_175 := n6_; clear n0_ n1_ n2_ n3_ n4_ n5_ n6_; clear hb hbox hg; have hnb3002 := NB177_175.out; have hnc3002 := NB175_177.out; obtain ⟨⟨hcz3003_0, hcz3003_1, hcz3003_2, hcz3003_3, hcz3003_4, hcz3003_5⟩, hfz3003_0, hfz3003_1, hfz3003_2, hfz3003_3, hfz3003_4, hfz3003_5⟩ := cells6 BK177.out) | ((with_reducible refine gate_store (t := 85) (p := 5) rfl ?_); refine store_event (t := 85) (p := 5) (v := ?_) (w1 := ((((((w3001.setCell ⟨gb177, 0, none⟩ (.int .i64 ((rd_T85 l0_2 x32_2).f0))).setCell ⟨gb177, 1, none⟩ (.int .i64 ((rd_T85 l0_2 x32_2).f1))).setCell ⟨gb177, 2, none⟩ (.int .i64 ((rd_T85 l0_2 x32_2).f2))).setCell ⟨gb177, 3, none⟩ (.int .i64 ((rd_T85 l0_2 x32_2).f3))).setCell ⟨gb177, 4, none⟩ (.bool true)).setCell ⟨gb177, 5, none⟩ (.bool (by first | (clear bq1_; exact true) | exact false)))) ?hg ?ho ?hn ?hr ?_; (case ho => rfl); (case hg => rfl); (case hn => rfl); (case hr => first | (go_simp; done) | (go_simp; rfl)); intro w3004 hw; have n0_ : Aside0 (w3004.heap[gb175]? = some (.cells #[.int .i64 a0_0, .int .i64 a0_1, .slice (some ad176) l0_2.length c0_2] 63 (0, 0))) := ⟨(by rw [hw]; exact (by (with_reducible repeat (first | refine blk_drewN ?_ _ | refine blk_drew ?_ | refine blk_alloc ?_ _)); refine blk_far ?_ NB175_177.out _; (with_reducible repeat (first | refine blk_drewN ?_ _ | refine blk_drew ?_ | refine blk_alloc ?_ _)); refine blk_far ?_ NB175_177.out _; (with_reducible repeat (first | refine blk_drewN ?_ _ | refine blk_drew ?_ | refine blk_alloc ?_ _)); refine blk_far ?_ NB175_177.out _; (with_reducible repeat (first | refine blk_drewN ?_ _ | refine blk_drew ?_ | refine blk_alloc ?_ _)); refine blk_far ?_ NB175_177.out _; (with_reducible repeat (first | refine blk_drewN ?_ _ | refine blk_drew ?_ | refine blk_alloc ?_ _)); refine blk_far ?_ NB175_177.out _; (with_reducible repeat (first | refine blk_drewN ?_ _ | refine blk_drew ?_ | refine blk_alloc ?_ _)); refine blk_far ?_ NB175_177.out _; (with_reducible repeat (first | refine blk_drewN ?_ _ | refine blk_drew ?_ | refine blk_alloc ?_ _)); exact BK175.out))⟩; have n1_ : Aside0 (w3004.heap[gb177]? = some (.cells #[.int .i64 ((rd_T85 l0_2 x32_2).f0), .int .i64 ((rd_T85 l0_2 x32_2).f1), .int .i64 ((rd_T85 l0_2 x32_2).f2), .int .i64 ((rd_T85 l0_2 x32_2).f3), .bool true, .bool (by first | (clear bq1_; exact true) | exact false)] 85 (0, 0))) := ⟨(by rw [hw]; exact (by (with_reducible repeat (first | refine blk_drewN ?_ _ | refine blk_drew ?_ | refine blk_alloc ?_ _)); refine blk_put (cs := #[.int .i64 ((rd_T85 l0_2 x32_2).f0), .int .i64 ((rd_T85 l0_2 x32_2).f1), .int .i64 ((rd_T85 l0_2 x32_2).f2), .int .i64 ((rd_T85 l0_2 x32_2).f3), .bool true, .bool false]) ?_ 5 _ rfl; (with_reducible repeat (first | refine blk_drewN ?_ _ | refine blk_drew ?_ | refine blk_alloc ?_ _)); refine blk_put (cs := #[.int .i64 ((rd_T85 l0_2 x32_2).f0), .int .i64 ((rd_T85 l0_2 x32_2).f1), .int .i64 ((rd_T85 l0_2 x32_2).f2), .int .i64 ((rd_T85 l0_2 x32_2).f3), .bool false, .bool false]) ?_ 4 _ rfl; (with_reducible repeat (first | refine blk_drewN ?_ _ | refine blk_drew ?_ | refine blk_alloc ?_ _)); refine blk_put (cs := #[.int .i64 ((rd_T85 l0_2 x32_2).f0), .int .i64 ((rd_T85 l0_2 x32_2).f1), .int .i64 ((rd_T85 l0_2 x32_2).f2), .int .i64 0, .bool false, .bool false]) ?_ 3 _ rfl; (with_reducible repeat (first | refine blk_drewN ?_ _ | refine blk_drew ?_ | refine blk_alloc ?_ _)); refine blk_put (cs := #[.int .i64 ((rd_T85 l0_2 x32_2).f0), .int .i64 ((rd_T85 l0_2 x32_2).f1), .int .i64 0, .int .i64 0, .bool false, .bool false]) ?_ 2 _ rfl; (with_reducible repeat (first | refine blk_drewN ?_ _ | refine blk_drew ?_ | refine blk_alloc ?_ _)); refine blk_put (cs := #[.int .i64 ((rd_T85 l0_2 x32_2).f0), .int .i64 0, .int .i64 0, .int .i64 0, .bool false, .bool false]) ?_ 1 _ rfl; (with_reducible repeat (first | refine blk_drewN ?_ _ | refine blk_drew ?_ | refine blk_alloc ?_ _)); refine blk_put (cs := #[.int .i64 0, .int .i64 0, .int .i64 0, .int .i64 0, .bool false, .bool false]) ?_ 0 _ rfl; (with_reducible repeat (first | refine blk_drewN ?_ _ | refine blk_drew ?_ | refine blk_alloc ?_ _)); exact BK177.out))⟩; have n2_ : Aside0 (Below w.heap.size w w3004) := ⟨(by rw [hw]; exact wB)⟩; clear hw; clear BK175; clear BK177; clear HB; have BK175 := n0_; have BK177 := n1_; have HB := n2_; clear n0_ n1_ n2_; obtain ⟨⟨hcz3005_0, hcz3005_1, hcz3005_2, hcz3005_3, hcz3005_4, hcz3005_5⟩, hfz3005_0, hfz3005_1, hfz3005_2, hfz3005_3, hfz3005_4, hfz3005_5⟩ := cells6 BK177.out))
 all_goals (try (rename_i h_; exfalso; cases h_; done))
 all_goals (try (rename_i h_ h2_; exfalso; cases h_; done))
 )
 rotate_left
 )
 rotate_right 2
 {
 go_ret
 exact ⟨by first | rfl | (simp [errW_none, errW_some] <;> rfl) | (simp [*, errW_none, errW_some] <;> rfl), wB⟩
 }
 {
 go_roundg k2
 case measure => have := HJ1.out; have := HK2.out; omega
 case rel => exact ⟨((rd_T85 l0_2 x32_2).f1), (wrap64 (x32_2 + 1)), (by first | rfl | (simp; done) | (simp [*]; done)), (by first | rfl | (simp; done) | (simp [*]; done)), H', ⟨by have := HJ1.out; have := HK2.out; omega⟩, ⟨Bh BK175⟩, ⟨wB⟩⟩
 }
 {
 (try rw [← Nbq2011.out] at hx176_5)
 cases e176
 replace hx176_0 := (HB.out.cell (World.block_lt_of_cell? w _ hx176_0)).trans hx176_0
 replace hx176_1 := (HB.out.cell (World.block_lt_of_cell? w _ hx176_1)).trans hx176_1
 replace hx176_2 := (HB.out.cell (World.block_lt_of_cell? w _ hx176_2)).trans hx176_2
 replace hx176_3 := (HB.out.cell (World.block_lt_of_cell? w _ hx176_3)).trans hx176_3
 replace hx176_4 := (HB.out.cell (World.block_lt_of_cell? w _ hx176_4)).trans hx176_4
 replace hx176_5 := (HB.out.cell (World.block_lt_of_cell? w _ hx176_5)).trans hx176_5
 replace p176 := eq_true p176
 replace q176 := eq_true q176
 go_wp2_with (first | ((with_reducible refine gate_dst (N := 5) rfl ?_); (try (refine gate_guard (by rfl) ?_; dsimp only)); refine box_event ?hg (N := 5) ?hd (cs := #[.int .i64 0, .int .i64 0, .int .i64 0, .int .i64 0, .bool false, .bool false]) (t := 85) ?hr ?_; (case hd => rfl); (case hg => rfl); (case hr => first | (go_simp; done) | (go_simp; rfl)); intro gb177 hg w3001 hbox hb; have n0_ := Aside0.mk (blk_below (Bh BK175) hb); have n1_ := Aside0.mk (below_step wB hb); have n2_ := Aside0.mk (hbox); have n3_ := Aside0.mk ((by rw [hg]; exact (below_size wB) : w.heap.size ≤ gb177)); have n4_ := Aside0.mk ((by rw [hg]; exact (below_size wB) : w.heap.size ≤ gb177)); have n5_ := Aside0.mk ((by rw [hg]; exact Nat.ne_of_lt (blk_lt (Bh BK175)) : gb175 ≠ gb177)); have n6_ := Aside0.mk ((by rw [hg]; exact Nat.ne_of_gt (blk_lt (Bh BK175)) : gb177 ≠ gb175)); clear BK175; clear HB; have BK175 := n0_; have HB := n1_; have BK177 := n2_; have GW177 := n3_; have GE177 := n4_; have NB175_177 := n5_; have NB177_175 := n6_; clear n0_ n1_ n2_ n3_ n4_ n5_ n6_; clear hb hbox hg; have hnb3002 := NB177_175.out; have hnc3002 := NB175_177.out; obtain ⟨⟨hcz3003_0, hcz3003_1, hcz3003_2, hcz3003_3, hcz3003_4, hcz3003_5⟩, hfz3003_0, hfz3003_1, hfz3003_2, hfz3003_3, hfz3003_4, hfz3003_5⟩ := cells6 BK177.out) | ((with_reducible refine gate_store (t := 85) (p := 5) rfl ?_); refine store_event (t := 85) (p := 5) (v := ?_) (w1 := ((((((w3001.setCell ⟨gb177, 0, none⟩ (.int .i64 ((rd_T85 l0_2 x32_2).f0))).setCell ⟨gb177, 1, none⟩ (.int .i64 ((rd_T85 l0_2 x32_2).f1))).setCell ⟨gb177, 2, none⟩ (.int .i64 ((rd_T85 l0_2 x32_2).f2))).setCell ⟨gb177, 3, none⟩ (.int .i64 ((rd_T85 l0_2 x32_2).f3))).setCell ⟨gb177, 4, none⟩ (.bool false)).setCell ⟨gb177, 5, none⟩ (.bool ((rd_T85 l0_2 x32_2).f5)))) ?hg ?ho ?hn ?hr ?_; (case ho => rfl); (case hg => rfl); (case hn => rfl); (case hr => first | (go_simp; done) | (go_simp; rfl)); intro w3004 hw; have n0_ : Aside0 (w3004.heap[gb175]? = some (.cells #[.int .i64 a0_0, .int .i64 a0_1, .slice (some ad176) l0_2.length c0_2] 63 (0, 0))) := ⟨(by rw [hw]; exact (by (with_reducible repeat (first | refine blk_drewN ?_ _ | refine blk_drew ?_ | refine blk_alloc ?_ _)); refine blk_far ?_ NB175_177.out _; (with_reducible repeat (first | refine blk_drewN ?_ _ | refine blk_drew ?_ | refine blk_alloc ?_ _)); refine blk_far ?_ NB175_177.out _; (with_reducible repeat (first | refine blk_drewN ?_ _ | refine blk_drew ?_ | refine blk_alloc ?_ _)); refine blk_far ?_ NB175_177.out _; (with_reducible repeat (first | refine blk_drewN ?_ _ | refine blk_drew ?_ | refine blk_alloc ?_ _)); refine blk_far ?_ NB175_177.out _; (with_reducible repeat (first | refine blk_drewN ?_ _ | refine blk_drew ?_ | refine blk_alloc ?_ _)); refine blk_far ?_ NB175_177.out _; (with_reducible repeat (first | refine blk_drewN ?_ _ | refine blk_drew ?_ | refine blk_alloc ?_ _)); refine blk_far ?_ NB175_177.out _; (with_reducible repeat (first | refine blk_drewN ?_ _ | refine blk_drew ?_ | refine blk_alloc ?_ _)); exact BK175.out))⟩; have n1_ : Aside0 (w3004.heap[gb177]? = some (.cells #[.int .i64 ((rd_T85 l0_2 x32_2).f0), .int .i64 ((rd_T85 l0_2 x32_2).f1), .int .i64 ((rd_T85 l0_2 x32_2).f2), .int .i64 ((rd_T85 l0_2 x32_2).f3), .bool false, .bool ((rd_T85 l0_2 x32_2).f5)] 85 (0, 0))) := ⟨(by rw [hw]; exact (by (with_reducible repeat (first | refine blk_drewN ?_ _ | refine blk_drew ?_ | refine blk_alloc ?_ _)); refine blk_put (cs := #[.int .i64 ((rd_T85 l0_2 x32_2).f0), .int .i64 ((rd_T85 l0_2 x32_2).f1), .int .i64 ((rd_T85 l0_2 x32_2).f2), .int .i64 ((rd_T85 l0_2 x32_2).f3), .bool false, .bool false]) ?_ 5 _ rfl; (with_reducible repeat (first | refine blk_drewN ?_ _ | refine blk_drew ?_ | refine blk_alloc ?_ _)); refine blk_put (cs := #[.int .i64 ((rd_T85 l0_2 x32_2).f0), .int .i64 ((rd_T85 l0_2 x32_2).f1), .int .i64 ((rd_T85 l0_2 x32_2).f2), .int .i64 ((rd_T85 l0_2 x32_2).f3), .bool false, .bool false]) ?_ 4 _ rfl; (with_reducible repeat (first | refine blk_drewN ?_ _ | refine blk_drew ?_ | refine blk_alloc ?_ _)); refine blk_put (cs := #[.int .i64 ((rd_T85 l0_2 x32_2).f0), .int .i64 ((rd_T85 l0_2 x32_2).f1), .int .i64 ((rd_T85 l0_2 x32_2).f2), .int .i64 0, .bool false, .bool false]) ?_ 3 _ rfl; (with_reducible repeat (first | refine blk_drewN ?_ _ | refine blk_drew ?_ | refine blk_alloc ?_ _)); refine blk_put (cs := #[.int .i64 ((rd_T85 l0_2 x32_2).f0), .int .i64 ((rd_T85 l0_2 x32_2).f1), .int .i64 0, .int .i64 0, .bool false, .bool false]) ?_ 2 _ rfl; (with_reducible repeat (first | refine blk_drewN ?_ _ | refine blk_drew ?_ | refine blk_alloc ?_ _)); refine blk_put (cs := #[.int .i64 ((rd_T85 l0_2 x32_2).f0), .int .i64 0, .int .i64 0, .int .i64 0, .bool false, .bool false]) ?_ 1 _ rfl; (with_reducible repeat (first | refine blk_drewN ?_ _ | refine blk_drew ?_ | refine blk_alloc ?_ _)); refine blk_put (cs := #[.int .i64 0, .int .i64 0, .int .i64 0, .int .i64 0, .bool false, .bool false]) ?_ 0 _ rfl; (with_reducible repeat (first | refine blk_drewN ?_ _ | refine blk_drew ?_ | refine blk_alloc ?_ _)); exact BK177.out))⟩; have n2_ : Aside0 (Below w.heap.size w w3004) := ⟨(by rw [hw]; exact wB)⟩; clear hw; clear BK175; clear BK177; clear HB; have BK175 := n0_; have BK177 := n1_; have HB := n2_; clear n0_ n1_ n2_; obtain ⟨⟨hcz3005_0, hcz3005_1, hcz3005_2, hcz3005_3, hcz3005_4, hcz3005_5⟩, hfz3005_0, hfz3005_1, hfz3005_2, hfz3005_3, hfz3005_4, hfz3005_5⟩ := cells6 BK177.out))
 all_goals (try (rename_i h_; exfalso; cases h_; done))
 all_goals (try (rename_i h_ h2_; exfalso; cases h_; done))
 go_roundg k2
 case measure => have := HJ1.out; have := HK2.out; omega
 case rel => exact ⟨((rd_T85 l0_2 x32_2).f1), (wrap64 (x32_2 + 1)), (by first | rfl | (simp; done) | (simp [*]; done)), (by first | rfl | (simp; done) | (simp [*]; done)), H', ⟨by have := HJ1.out; have := HK2.out; omega⟩, ⟨Bh BK175⟩, ⟨wB⟩⟩
 }
 {
 cases e176
 replace hx176_0 := (HB.out.cell (World.block_lt_of_cell? w _ hx176_0)).trans hx176_0
 replace hx176_1 := (HB.out.cell (World.block_lt_of_cell? w _ hx176_1)).trans hx176_1
 replace hx176_2 := (HB.out.cell (World.block_lt_of_cell? w _ hx176_2)).trans hx176_2
 replace hx176_3 := (HB.out.cell (World.block_lt_of_cell? w _ hx176_3)).trans hx176_3
 replace hx176_4 := (HB.out.cell (World.block_lt_of_cell? w _ hx176_4)).trans hx176_4
 replace hx176_5 := (HB.out.cell (World.block_lt_of_cell? w _ hx176_5)).trans hx176_5
 replace p176 := eq_true p176
 replace q176 := eq_true q176
 go_wp2_with (first | ((with_reducible refine gate_dst (N := 5) rfl ?_); (try (refine gate_guard (by rfl) ?_; dsimp only)); refine box_event ?hg (N := 5) ?hd (cs := #[.int .i64 0, .int .i64 0, .int .i64 0, .int .i64 0, .bool false, .bool false]) (t := 85) ?hr ?_; (case hd => rfl); (case hg => rfl); (case hr => first | (go_simp; done) | (go_simp; rfl)); intro gb177 hg w3001 hbox hb; have n0_ := Aside0.mk (blk_below (Bh BK175) hb); have n1_ := Aside0.mk (below_step wB hb); have n2_ := Aside0.mk (hbox); have n3_ := Aside0.mk ((by rw [hg]; exact (below_size wB) : w.heap.size ≤ gb177)); have n4_ := Aside0.mk ((by rw [hg]; exact (below_size wB) : w.heap.size ≤ gb177)); have n5_ := Aside0.mk ((by rw [hg]; exact Nat.ne_of_lt (blk_lt (Bh BK175)) : gb175 ≠ gb177)); have n6_ := Aside0.mk ((by rw [hg]; exact Nat.ne_of_gt (blk_lt (Bh BK175)) : gb177 ≠ gb175)); clear BK175; clear HB; have BK175 := n0_; have HB := n1_; have BK177 := n2_; have GW177 := n3_; have GE177 := n4_; have NB175_177 := n5_; have NB177_175 := n6_; clear n0_ n1_ n2_ n3_ n4_ n5_ n6_; clear hb hbox hg; have hnb3002 := NB177_175.out; have hnc3002 := NB175_177.out; obtain ⟨⟨hcz3003_0, hcz3003_1, hcz3003_2, hcz3003_3, hcz3003_4, hcz3003_5⟩, hfz3003_0, hfz3003_1, hfz3003_2, hfz3003_3, hfz3003_4, hfz3003_5⟩ := cells6 BK177.out) | ((with_reducible refine gate_store (t := 85) (p := 5) rfl ?_); refine store_event (t := 85) (p := 5) (v := ?_) (w1 := ((((((w3001.setCell ⟨gb177, 0, none⟩ (.int .i64 ((rd_T85 l0_2 x32_2).f0))).setCell ⟨gb177, 1, none⟩ (.int .i64 ((rd_T85 l0_2 x32_2).f1))).setCell ⟨gb177, 2, none⟩ (.int .i64 ((rd_T85 l0_2 x32_2).f2))).setCell ⟨gb177, 3, none⟩ (.int .i64 ((rd_T85 l0_2 x32_2).f3))).setCell ⟨gb177, 4, none⟩ (.bool ((rd_T85 l0_2 x32_2).f4))).setCell ⟨gb177, 5, none⟩ (.bool ((rd_T85 l0_2 x32_2).f5)))) ?hg ?ho ?hn ?hr ?_; (case ho => rfl); (case hg => rfl); (case hn => rfl); (case hr => first | (go_simp; done) | (go_simp; rfl)); intro w3004 hw; have n0_ : Aside0 (w3004.heap[gb175]? = some (.cells #[.int .i64 a0_0, .int .i64 a0_1, .slice (some ad176) l0_2.length c0_2] 63 (0, 0))) := ⟨(by rw [hw]; exact (by (with_reducible repeat (first | refine blk_drewN ?_ _ | refine blk_drew ?_ | refine blk_alloc ?_ _)); refine blk_far ?_ NB175_177.out _; (with_reducible repeat (first | refine blk_drewN ?_ _ | refine blk_drew ?_ | refine blk_alloc ?_ _)); refine blk_far ?_ NB175_177.out _; (with_reducible repeat (first | refine blk_drewN ?_ _ | refine blk_drew ?_ | refine blk_alloc ?_ _)); refine blk_far ?_ NB175_177.out _; (with_reducible repeat (first | refine blk_drewN ?_ _ | refine blk_drew ?_ | refine blk_alloc ?_ _)); refine blk_far ?_ NB175_177.out _; (with_reducible repeat (first | refine blk_drewN ?_ _ | refine blk_drew ?_ | refine blk_alloc ?_ _)); refine blk_far ?_ NB175_177.out _; (with_reducible repeat (first | refine blk_drewN ?_ _ | refine blk_drew ?_ | refine blk_alloc ?_ _)); refine blk_far ?_ NB175_177.out _; (with_reducible repeat (first | refine blk_drewN ?_ _ | refine blk_drew ?_ | refine blk_alloc ?_ _)); exact BK175.out))⟩; have n1_ : Aside0 (w3004.heap[gb177]? = some (.cells #[.int .i64 ((rd_T85 l0_2 x32_2).f0), .int .i64 ((rd_T85 l0_2 x32_2).f1), .int .i64 ((rd_T85 l0_2 x32_2).f2), .int .i64 ((rd_T85 l0_2 x32_2).f3), .bool ((rd_T85 l0_2 x32_2).f4), .bool ((rd_T85 l0_2 x32_2).f5)] 85 (0, 0))) := ⟨(by rw [hw]; exact (by (with_reducible repeat (first | refine blk_drewN ?_ _ | refine blk_drew ?_ | refine blk_alloc ?_ _)); refine blk_put (cs := #[.int .i64 ((rd_T85 l0_2 x32_2).f0), .int .i64 ((rd_T85 l0_2 x32_2).f1), .int .i64 ((rd_T85 l0_2 x32_2).f2), .int .i64 ((rd_T85 l0_2 x32_2).f3), .bool ((rd_T85 l0_2 x32_2).f4), .bool false]) ?_ 5 _ rfl; (with_reducible repeat (first | refine blk_drewN ?_ _ | refine blk_drew ?_ | refine blk_alloc ?_ _)); refine blk_put (cs := #[.int .i64 ((rd_T85 l0_2 x32_2).f0), .int .i64 ((rd_T85 l0_2 x32_2).f1), .int .i64 ((rd_T85 l0_2 x32_2).f2), .int .i64 ((rd_T85 l0_2 x32_2).f3), .bool false, .bool false]) ?_ 4 _ rfl; (with_reducible repeat (first | refine blk_drewN ?_ _ | refine blk_drew ?_ | refine blk_alloc ?_ _)); refine blk_put (cs := #[.int .i64 ((rd_T85 l0_2 x32_2).f0), .int .i64 ((rd_T85 l0_2 x32_2).f1), .int .i64 ((rd_T85 l0_2 x32_2).f2), .int .i64 0, .bool false, .bool false]) ?_ 3 _ rfl; (with_reducible repeat (first | refine blk_drewN ?_ _ | refine blk_drew ?_ | refine blk_alloc ?_ _)); refine blk_put (cs := #[.int .i64 ((rd_T85 l0_2 x32_2).f0), .int .i64 ((rd_T85 l0_2 x32_2).f1), .int .i64 0, .int .i64 0, .bool false, .bool false]) ?_ 2 _ rfl; (with_reducible repeat (first | refine blk_drewN ?_ _ | refine blk_drew ?_ | refine blk_alloc ?_ _)); refine blk_put (cs := #[.int .i64 ((rd_T85 l0_2 x32_2).f0), .int .i64 0, .int .i64 0, .int .i64 0, .bool false, .bool false]) ?_ 1 _ rfl; (with_reducible repeat (first | refine blk_drewN ?_ _ | refine blk_drew ?_ | refine blk_alloc ?_ _)); refine blk_put (cs := #[.int .i64 0, .int .i64 0, .int .i64 0, .int .i64 0, .bool false, .bool false]) ?_ 0 _ rfl; (with_reducible repeat (first | refine blk_drewN ?_ _ | refine blk_drew ?_ | refine blk_alloc ?_ _)); exact BK177.out))⟩; have n2_ : Aside0 (Below w.heap.size w w3004) := ⟨(by rw [hw]; exact wB)⟩; clear hw; clear BK175; clear BK177; clear HB; have BK175 := n0_; have BK177 := n1_; have HB := n2_; clear n0_ n1_ n2_; obtain ⟨⟨hcz3005_0, hcz3005_1, hcz3005_2, hcz3005_3, hcz3005_4, hcz3005_5⟩, hfz3005_0, hfz3005_1, hfz3005_2, hfz3005_3, hfz3005_4, hfz3005_5⟩ := cells6 BK177.out))
 all_goals (try (rename_i h_; exfalso; cases h_; done))
 all_goals (try (rename_i h_ h2_; exfalso; cases h_; done))
 go_ret
 exact ⟨by first | rfl | (simp [errW_none, errW_some] <;> rfl) | (simp [*, errW_none, errW_some] <;> rfl), wB⟩
 }
 {
 obtain ⟨⟨hcz3001_0, hcz3001_1, hcz3001_2⟩, hfz3001_0, hfz3001_1, hfz3001_2⟩ := cells3 BK175.out
 go_wp2
 all_goals (try (rename_i h_; exfalso; cases h_; done))
 all_goals (try (rename_i h_ h2_; exfalso; cases h_; done))
 go_ret
 exact ⟨by first | rfl | (simp [errW_none, errW_some] <;> rfl) | (simp [*, errW_none, errW_some] <;> rfl), wB⟩
 }
 }
 )
 }
 }
 )

end Go.Proofs.Ytkfbcmbemihbnaa.PFnExactBoardAgain
