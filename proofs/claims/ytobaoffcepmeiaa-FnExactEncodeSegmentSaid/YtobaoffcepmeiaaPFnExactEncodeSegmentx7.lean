-- Written for this claim by a program of this session (wip/mkprint.py: the print, turned at a few places). Not trusted: Lean checks it.
import Derived.Test.YtobaoffcepmeiaaPFnExactEncodeSegmentx0
import Derived.Test.YtobaoffcepmeiaaPFnExactEncodeSegmentx3
import Derived.Test.YtobaoffcepmeiaaPFnExactEncodeSegmentx4
import Derived.Test.YtobaoffcepmeiaaPFnExactEncodeSegmentx5
import Derived.Test.YtobaoffcepmeiaaPFnExactEncodeSegmentx6
namespace Go.Proofs.Ytobaoffcepmeiaa.PFnExactEncodeSegment
open Go.RowKit Go.Proofs.YtobaoffcepmeiaaW.PrintWords Go.Proofs.YtobaoffcepmeiaaW.PrintLast Go.Proofs.YtobaoffcepmeiaaW.PrintMore
attribute [local go_sem] max2_int min2_int max_two min_two max_three min_three max_four min_four   -- for this text's walks alone
set_option linter.unusedVariables false
set_option linter.unusedSimpArgs false

/-! ### spec_EncodeSegment: function 66 -/
def spec_EncodeSegment.j0 : Nat → Int → Int → Bool → Int → Int → Int → Int → Int → Int → Int → Bool → Int → Bool → List (S157) → List Int → Option (List Int × Int)
  | 0, _, _, _, _, _, _, _, _, _, _, _, _, _, _, _ => none
  | k + 1, x1, x2, x23, x254000, x254001, x254002, x254003, x254004, x254005, x254006, x254007, x254008, x254009, x254010, x254011 => if x23 = true then (some (([] : List Int), 1)) else ((spec_l11Options.f k x254000 x254001 x254002 x254003 x254004 x254005 x254006 x254007 x254008 x254009 x254010 x254011).bind fun t257 => (if (wrap64 ((wrap64 (20 + (t257.length : Int))) + (x254011.length : Int))) > 65515 then (some (([] : List Int), 7)) else ((spec_l03Put.f k x254000 2).bind fun t260 => ((spec_l03Put.f k x254001 2).bind fun t263 => ((spec_l01Join.f k t260 t263).bind fun t266 => ((spec_l03Put.f k x254002 4).bind fun t269 => ((spec_l01Join.f k t266 t269).bind fun t272 => ((spec_l03Put.f k x254003 4).bind fun t275 => ((spec_l01Join.f k t272 t275).bind fun t278 => ((spec_l01Join.f k t278 (([(wrap64 ((wrap64 (Int.tdiv (wrap64 (20 + (t257.length : Int))) 4)) * 16)) % 256, (x254004) % 256] : List Int))).bind fun t284 => ((spec_l03Put.f k x254005 2).bind fun t287 => ((spec_l01Join.f k t284 t287).bind fun t290 => ((spec_l01Join.f k t290 (([0, 0, 0, 0] : List Int))).bind fun t296 => ((spec_l01Join.f k t257 x254011).bind fun t299 => ((spec_l01Join.f k t296 t299).bind fun t302 => ((spec_l10Sum.f k t302 x1 x2 6).bind fun t305 => (if 16 < (t302.length : Int) then (if 17 < (t302.length : Int) then (some (((t302.set (16 : Int).toNat ((t305 / 256) % 256)).set (17 : Int).toNat ((t305) % 256)), 0)) else (none)) else (none))))))))))))))))))
def spec_EncodeSegment.f (k : Nat) (a0_0 : Int) (a0_1 : Int) (a0_2 : Int) (a0_3 : Int) (a0_4 : Int) (a0_5 : Int) (a0_6 : Int) (a0_7 : Bool) (a0_8 : Int) (a0_9 : Bool) (l0_10 : List (S157)) (l0_11 : List Int) (a1 : Int) (a2 : Int) : Option (List Int × Int) := (spec_l11OK.f k a0_0 a0_1 a0_2 a0_3 a0_4 a0_5 a0_6 a0_7 a0_8 a0_9 l0_10 l0_11).bind fun t254 => (if t254 = true then ((spec_l02AddrOK.f a1).bind fun t255 => (if t255 = true then ((spec_l02AddrOK.f a2).bind fun t256 => (spec_EncodeSegment.j0 k a1 a2 (!t256) a0_0 a0_1 a0_2 a0_3 a0_4 a0_5 a0_6 a0_7 a0_8 a0_9 l0_10 l0_11)) else (spec_EncodeSegment.j0 k a1 a2 true a0_0 a0_1 a0_2 a0_3 a0_4 a0_5 a0_6 a0_7 a0_8 a0_9 l0_10 l0_11))) else (spec_EncodeSegment.j0 k a1 a2 true a0_0 a0_1 a0_2 a0_3 a0_4 a0_5 a0_6 a0_7 a0_8 a0_9 l0_10 l0_11))
theorem spec_EncodeSegment.mono_l : ∀ k, (∀ y0 y1 y2 y3 y4 y5 y6 y7 y8 y9 y10 y11 y12 y13 y14, LeO (spec_EncodeSegment.j0 k y0 y1 y2 y3 y4 y5 y6 y7 y8 y9 y10 y11 y12 y13 y14) (spec_EncodeSegment.j0 (k + 1) y0 y1 y2 y3 y4 y5 y6 y7 y8 y9 y10 y11 y12 y13 y14))
  | 0 => fun _ _ _ _ _ _ _ _ _ _ _ _ _ _ _ r h => by simp [spec_EncodeSegment.j0] at h
  | k + 1 => by
    have ih0 := spec_EncodeSegment.mono_l k
    · intro y0 y1 y2 y3 y4 y5 y6 y7 y8 y9 y10 y11 y12 y13 y14
      unfold spec_EncodeSegment.j0
      repeat' first
      | (with_reducible exact ih0 _ _ _ _ _ _ _ _ _ _ _ _ _ _ _)
      | (with_reducible exact spec_l01Join.mono _ _ _)
      | (with_reducible exact spec_l03Put.mono _ _ _)
      | (with_reducible exact spec_l10Sum.mono _ _ _ _ _)
      | (with_reducible exact spec_l11OK.mono _ _ _ _ _ _ _ _ _ _ _ _ _)
      | (with_reducible exact spec_l11Options.mono _ _ _ _ _ _ _ _ _ _ _ _ _)
      | (with_reducible exact LeO.refl _)
      | (with_reducible exact LeO.none _)
      | (with_reducible refine LeO.ite ?_ ?_)
      | (with_reducible refine LeO.bind ?_ (fun _ => ?_))
      | exact ih0 _ _ _ _ _ _ _ _ _ _ _ _ _ _ _
      | exact spec_l01Join.mono _ _ _
      | exact spec_l03Put.mono _ _ _
      | exact spec_l10Sum.mono _ _ _ _ _
      | exact spec_l11OK.mono _ _ _ _ _ _ _ _ _ _ _ _ _
      | exact spec_l11Options.mono _ _ _ _ _ _ _ _ _ _ _ _ _
      | exact LeO.none _
      | refine LeO.ite ?_ ?_
      | refine LeO.bind ?_ (fun _ => ?_)
theorem spec_EncodeSegment.mono : ∀ a0 a1 a2 a3 a4 a5 a6 a7 a8 a9 a10 a11 a12 a13 k, LeO (spec_EncodeSegment.f k a0 a1 a2 a3 a4 a5 a6 a7 a8 a9 a10 a11 a12 a13) (spec_EncodeSegment.f (k + 1) a0 a1 a2 a3 a4 a5 a6 a7 a8 a9 a10 a11 a12 a13) := by
 intro a0 a1 a2 a3 a4 a5 a6 a7 a8 a9 a10 a11 a12 a13 k
 have ih0 := spec_EncodeSegment.mono_l k
 unfold spec_EncodeSegment.f
 repeat' first
     | (with_reducible exact ih0 _ _ _ _ _ _ _ _ _ _ _ _ _ _ _)
     | (with_reducible exact spec_l01Join.mono _ _ _)
     | (with_reducible exact spec_l03Put.mono _ _ _)
     | (with_reducible exact spec_l10Sum.mono _ _ _ _ _)
     | (with_reducible exact spec_l11OK.mono _ _ _ _ _ _ _ _ _ _ _ _ _)
     | (with_reducible exact spec_l11Options.mono _ _ _ _ _ _ _ _ _ _ _ _ _)
     | (with_reducible exact LeO.refl _)
     | (with_reducible exact LeO.none _)
     | (with_reducible refine LeO.ite ?_ ?_)
     | (with_reducible refine LeO.bind ?_ (fun _ => ?_))
     | exact ih0 _ _ _ _ _ _ _ _ _ _ _ _ _ _ _
     | exact spec_l01Join.mono _ _ _
     | exact spec_l03Put.mono _ _ _
     | exact spec_l10Sum.mono _ _ _ _ _
     | exact spec_l11OK.mono _ _ _ _ _ _ _ _ _ _ _ _ _
     | exact spec_l11Options.mono _ _ _ _ _ _ _ _ _ _ _ _ _
     | exact LeO.none _
     | refine LeO.ite ?_ ?_
     | refine LeO.bind ?_ (fun _ => ?_)
def spec_EncodeSegment.T6 : Bool × List (List Nat × List Nat) := (true, [([], []), ([0], [0]), ([1], [1]), ([], []), ([3], [3]), ([4, 2], [4]), ([2, 5, 5], [2, 5]), ([6, 6, 0, 1, 2, 3, 4, 5, 6], [6])])
def spec_EncodeSegment.B6 : List Nat := [0, 1, 3, 0, 8, 31, 63, 127]
theorem spec_EncodeSegment.tab6 : rtab .any (opsOf Try.f66 6) = spec_EncodeSegment.T6 := by kernel_rfl
theorem spec_EncodeSegment.bits6 : waitsOk spec_EncodeSegment.T6.2 spec_EncodeSegment.B6 = true := by kernel_rfl
def spec_EncodeSegment.T7 : Bool × List (List Nat × List Nat) := (true, [([], []), ([], []), ([1], [1]), ([2], [2]), ([0, 3, 3], [0, 3]), ([], []), ([5], [5]), ([6, 4], [6]), ([4, 7, 7], [4, 7]), ([8, 8, 0, 1, 2, 3, 4, 5, 6, 7, 8], [0, 8])])
def spec_EncodeSegment.B7 : List Nat := [0, 0, 2, 6, 15, 0, 32, 127, 255, 511]
theorem spec_EncodeSegment.tab7 : rtab .any (opsOf Try.f66 7) = spec_EncodeSegment.T7 := by kernel_rfl
theorem spec_EncodeSegment.bits7 : waitsOk spec_EncodeSegment.T7.2 spec_EncodeSegment.B7 = true := by kernel_rfl
def spec_EncodeSegment.T10 : Bool × List (List Nat × List Nat) := (true, [([], []), ([], []), ([0, 1], [0, 1]), ([], []), ([], []), ([4], [4]), ([3, 5, 2], [3, 5]), ([2, 6, 6], [2, 6]), ([7, 7, 0, 1, 2, 3, 4, 5, 6, 7], [0, 7])])
def spec_EncodeSegment.B10 : List Nat := [0, 0, 3, 0, 0, 16, 63, 127, 255]
theorem spec_EncodeSegment.tab10 : rtab .any (opsOf Try.f66 10) = spec_EncodeSegment.T10 := by kernel_rfl
theorem spec_EncodeSegment.bits10 : waitsOk spec_EncodeSegment.T10.2 spec_EncodeSegment.B10 = true := by kernel_rfl
set_option maxHeartbeats 8000000 in
set_option maxRecDepth 100000 in
theorem spec_EncodeSegment.calls (k : Nat) (a0_0 : Int) (a0_1 : Int) (a0_2 : Int) (a0_3 : Int) (a0_4 : Int) (a0_5 : Int) (a0_6 : Int) (a0_7 : Bool) (a0_8 : Int) (a0_9 : Bool) (A0_10 : Option Addr) (c0_10 : Nat) (l0_10 : List (S157)) (A0_11 : Option Addr) (c0_11 : Nat) (l0_11 : List Int) (a1 : Int) (a2 : Int) (r1 : List Int) (r2 : Int) (w : World) (hr0_10 : Kd.C k157 w A0_10 l0_10.length l0_10) (hc0_10 : l0_10.length ≤ c0_10) (hr0_11 : Kd.C (Kd.int .u8) w A0_11 l0_11.length l0_11) (hc0_11 : l0_11.length ≤ c0_11) (h : spec_EncodeSegment.f k a0_0 a0_1 a0_2 a0_3 a0_4 a0_5 a0_6 a0_7 a0_8 a0_9 l0_10 l0_11 a1 a2 = some (r1, r2)) :
 Calls Try.prog 66 #[.agg #[.int .i64 a0_0, .int .i64 a0_1, .int .i64 a0_2, .int .i64 a0_3, .int .i64 a0_4, .int .i64 a0_5, .int .i64 a0_6, .bool a0_7, .int .i64 a0_8, .bool a0_9, .slice A0_10 l0_10.length c0_10, .slice A0_11 l0_11.length c0_11], .int .i64 a1, .int .i64 a2] w fun e w' => ∃ v0_ : Value, e = .returned (.tuple #[v0_, .int .i64 r2]) ∧ Kd.R (Kd.int .u8) 5 w' w.heap.size (fun _ => True) v0_ r1 ∧ Below w.heap.size w w' := by
 have hu51 := Try.underlying51
 have HR0_10 := Aside0.mk hr0_10
 have HC0_10 := Aside0.mk hc0_10
 clear hr0_10 hc0_10
 have HR0_11 := Aside0.mk hr0_11
 have HC0_11 := Aside0.mk hc0_11
 clear hr0_11 hc0_11
 have HB := Aside0.mk (Below.refl w.heap.size w)
 have H : ((spec_l11OK.f k a0_0 a0_1 a0_2 a0_3 a0_4 a0_5 a0_6 a0_7 a0_8 a0_9 l0_10 l0_11).bind fun t254 => (if t254 = true then ((spec_l02AddrOK.f a1).bind fun t255 => (if t255 = true then ((spec_l02AddrOK.f a2).bind fun t256 => (spec_EncodeSegment.j0 k a1 a2 (!t256) a0_0 a0_1 a0_2 a0_3 a0_4 a0_5 a0_6 a0_7 a0_8 a0_9 l0_10 l0_11)) else (spec_EncodeSegment.j0 k a1 a2 true a0_0 a0_1 a0_2 a0_3 a0_4 a0_5 a0_6 a0_7 a0_8 a0_9 l0_10 l0_11))) else (spec_EncodeSegment.j0 k a1 a2 true a0_0 a0_1 a0_2 a0_3 a0_4 a0_5 a0_6 a0_7 a0_8 a0_9 l0_10 l0_11))) = some (r1, r2) := h
 clear h
 have HC4 := Aside0.mk H
 clear H
 go_enter Try.func66, Try.ntmps66
 go_upto_region 1 with (first | ((with_reducible refine gate_dst (N := 3) rfl ?_); refine box_event ?hg (N := 3) ?hd (cs := #[.int .i64 a0_0, .int .i64 a0_1, .int .i64 a0_2, .int .i64 a0_3, .int .i64 a0_4, .int .i64 a0_5, .int .i64 a0_6, .bool a0_7, .int .i64 a0_8, .bool a0_9, .slice A0_10 l0_10.length c0_10, .slice A0_11 l0_11.length c0_11]) (t := 51) ?hr ?_; (case hd => rfl); (case hg => rfl); (case hr => first | (go_simp; done) | (go_simp; rfl)); intro gb253 hg w5 hbox hb; have n0_ := Aside0.mk (below_step wB hb); have n1_ := Aside0.mk (hbox); have n2_ := Aside0.mk ((by rw [hg]; exact (below_size wB) : w.heap.size ≤ gb253)); have n3_ := Aside0.mk ((by rw [hg]; exact (below_size wB) : w.heap.size ≤ gb253)); clear HB; have HB := n0_; have BK253 := n1_; have GW253 := n2_; have GE253 := n3_; clear n0_ n1_ n2_ n3_; clear hb hbox hg))
 (try simp only [Act.put, List.setIfInBounds_toArray, List.set_cons_zero, List.set_cons_succ])
 go_cut [23] (fun v23 wc => ∃ (kq : Nat) (x23_3 : Bool), v23 = .bool x23_3 ∧ Aside0 (spec_EncodeSegment.j0 kq a1 a2 x23_3 a0_0 a0_1 a0_2 a0_3 a0_4 a0_5 a0_6 a0_7 a0_8 a0_9 l0_10 l0_11 = some (r1, r2)) ∧ Aside0 (kq ≤ k) ∧ Aside0 (wc.heap[gb253]? = some (.cells #[.int .i64 a0_0, .int .i64 a0_1, .int .i64 a0_2, .int .i64 a0_3, .int .i64 a0_4, .int .i64 a0_5, .int .i64 a0_6, .bool a0_7, .int .i64 a0_8, .bool a0_9, (.slice A0_10 l0_10.length c0_10), (.slice A0_11 l0_11.length c0_11)] 51 (0, 0))) ∧ Aside0 (Below w.heap.size w wc))
 case first => (
 have H := HC4.out
 clear HC4
 replace H := Option.bind_eq_some_iff.mp H
 obtain ⟨t254, A60, H⟩ := H
 replace H : (if t254 = true then ((spec_l02AddrOK.f a1).bind fun t255 => (if t255 = true then ((spec_l02AddrOK.f a2).bind fun t256 => (spec_EncodeSegment.j0 k a1 a2 (!t256) a0_0 a0_1 a0_2 a0_3 a0_4 a0_5 a0_6 a0_7 a0_8 a0_9 l0_10 l0_11)) else (spec_EncodeSegment.j0 k a1 a2 true a0_0 a0_1 a0_2 a0_3 a0_4 a0_5 a0_6 a0_7 a0_8 a0_9 l0_10 l0_11))) else (spec_EncodeSegment.j0 k a1 a2 true a0_0 a0_1 a0_2 a0_3 a0_4 a0_5 a0_6 a0_7 a0_8 a0_9 l0_10 l0_11)) = some (r1, r2) := H
 have A6 := Aside0.mk A60
 clear A60
 by_cases c7 : t254 = true
 {
 subst c7
 have H1 : ((spec_l02AddrOK.f a1).bind fun t255 => (if t255 = true then ((spec_l02AddrOK.f a2).bind fun t256 => (spec_EncodeSegment.j0 k a1 a2 (!t256) a0_0 a0_1 a0_2 a0_3 a0_4 a0_5 a0_6 a0_7 a0_8 a0_9 l0_10 l0_11)) else (spec_EncodeSegment.j0 k a1 a2 true a0_0 a0_1 a0_2 a0_3 a0_4 a0_5 a0_6 a0_7 a0_8 a0_9 l0_10 l0_11))) = some (r1, r2) := by rw [if_pos rfl] at H; exact H
 clear H
 have H := H1
 clear H1
 replace H := Option.bind_eq_some_iff.mp H
 obtain ⟨t255, A80, H⟩ := H
 replace H : (if t255 = true then ((spec_l02AddrOK.f a2).bind fun t256 => (spec_EncodeSegment.j0 k a1 a2 (!t256) a0_0 a0_1 a0_2 a0_3 a0_4 a0_5 a0_6 a0_7 a0_8 a0_9 l0_10 l0_11)) else (spec_EncodeSegment.j0 k a1 a2 true a0_0 a0_1 a0_2 a0_3 a0_4 a0_5 a0_6 a0_7 a0_8 a0_9 l0_10 l0_11)) = some (r1, r2) := H
 have A8 := Aside0.mk A80
 clear A80
 by_cases c9 : t255 = true
 {
 subst c9
 have H1 : ((spec_l02AddrOK.f a2).bind fun t256 => (spec_EncodeSegment.j0 k a1 a2 (!t256) a0_0 a0_1 a0_2 a0_3 a0_4 a0_5 a0_6 a0_7 a0_8 a0_9 l0_10 l0_11)) = some (r1, r2) := by rw [if_pos rfl] at H; exact H
 clear H
 have H := H1
 clear H1
 replace H := Option.bind_eq_some_iff.mp H
 obtain ⟨t256, A100, H⟩ := H
 replace H : (spec_EncodeSegment.j0 k a1 a2 (!t256) a0_0 a0_1 a0_2 a0_3 a0_4 a0_5 a0_6 a0_7 a0_8 a0_9 l0_10 l0_11) = some (r1, r2) := H
 have A10 := Aside0.mk A100
 clear A100
 have H' := Aside0.mk H
 clear H
 obtain ⟨⟨hcz11_0, hcz11_1, hcz11_2, hcz11_3, hcz11_4, hcz11_5, hcz11_6, hcz11_7, hcz11_8, hcz11_9, hcz11_10, hcz11_11⟩, hfz11_0, hfz11_1, hfz11_2, hfz11_3, hfz11_4, hfz11_5, hfz11_6, hfz11_7, hfz11_8, hfz11_9, hfz11_10, hfz11_11⟩ := cells12 BK253.out
 go_wp2_with (first | ((with_reducible refine gate_callee (f := 122) rfl ?_); refine goesL_ (some 12) rfl rfl Try.func122 (by kernel_rfl) rfl #[.agg #[.int .i64 a0_0, .int .i64 a0_1, .int .i64 a0_2, .int .i64 a0_3, .int .i64 a0_4, .int .i64 a0_5, .int .i64 a0_6, .bool a0_7, .int .i64 a0_8, .bool a0_9, .slice A0_10 l0_10.length c0_10, .slice A0_11 l0_11.length c0_11]] rfl wT ?_; (with_reducible refine (spec_l11OK.calls k a0_0 a0_1 a0_2 a0_3 a0_4 a0_5 a0_6 a0_7 a0_8 a0_9 _ _ l0_10 _ _ l0_11 true _ ?side1 ?side2 ?side3 ?side4 A6.out).mono ?_); (case side1 => exact Kd.C_below HR0_10.out wB); (case side2 => exact HC0_10.out); (case side3 => exact Kd.C_below HR0_11.out wB); (case side4 => exact HC0_11.out); rintro e w12 ⟨rfl, hb⟩; refine ⟨_, rfl, ?_⟩; have n0_ := Aside0.mk (blk_below (Bh BK253) hb); have n1_ := Aside0.mk (below_step wB hb); clear BK253; clear HB; have BK253 := n0_; have HB := n1_; clear n0_ n1_; (try clear hb); (try clear hb2); (try clear hk); (try clear hi)) | (go_at_call 109; (with_reducible refine (spec_l02AddrOK.calls a1 true _ A8.out).mono ?_); rintro e w' ⟨rfl, ⟨nd, rfl⟩⟩) | (go_at_call 109; (with_reducible refine (spec_l02AddrOK.calls a2 t256 _ A10.out).mono ?_); rintro e w' ⟨rfl, ⟨nd, rfl⟩⟩))
 go_meet
 case rel => exact ⟨_, (!t256), (by first | rfl | (simp; done) | (simp [*]; done)), H', ⟨by first | omega | exact Nat.le_refl _⟩, ⟨Bh BK253⟩, ⟨wB⟩⟩
 }
 {
 replace c9 := Bool.eq_false_iff.mpr c9
 subst c9
 have H1 : (spec_EncodeSegment.j0 k a1 a2 true a0_0 a0_1 a0_2 a0_3 a0_4 a0_5 a0_6 a0_7 a0_8 a0_9 l0_10 l0_11) = some (r1, r2) := by rw [if_neg (show ¬ (false = true) by decide)] at H; exact H
 clear H
 have H := H1
 clear H1
 have H' := Aside0.mk H
 clear H
 obtain ⟨⟨hcz13_0, hcz13_1, hcz13_2, hcz13_3, hcz13_4, hcz13_5, hcz13_6, hcz13_7, hcz13_8, hcz13_9, hcz13_10, hcz13_11⟩, hfz13_0, hfz13_1, hfz13_2, hfz13_3, hfz13_4, hfz13_5, hfz13_6, hfz13_7, hfz13_8, hfz13_9, hfz13_10, hfz13_11⟩ := cells12 BK253.out
 go_wp2_with (first | ((with_reducible refine gate_callee (f := 122) rfl ?_); refine goesL_ (some 12) rfl rfl Try.func122 (by kernel_rfl) rfl #[.agg #[.int .i64 a0_0, .int .i64 a0_1, .int .i64 a0_2, .int .i64 a0_3, .int .i64 a0_4, .int .i64 a0_5, .int .i64 a0_6, .bool a0_7, .int .i64 a0_8, .bool a0_9, .slice A0_10 l0_10.length c0_10, .slice A0_11 l0_11.length c0_11]] rfl wT ?_; (with_reducible refine (spec_l11OK.calls k a0_0 a0_1 a0_2 a0_3 a0_4 a0_5 a0_6 a0_7 a0_8 a0_9 _ _ l0_10 _ _ l0_11 true _ ?side1 ?side2 ?side3 ?side4 A6.out).mono ?_); (case side1 => exact Kd.C_below HR0_10.out wB); (case side2 => exact HC0_10.out); (case side3 => exact Kd.C_below HR0_11.out wB); (case side4 => exact HC0_11.out); rintro e w14 ⟨rfl, hb⟩; refine ⟨_, rfl, ?_⟩; have n0_ := Aside0.mk (blk_below (Bh BK253) hb); have n1_ := Aside0.mk (below_step wB hb); clear BK253; clear HB; have BK253 := n0_; have HB := n1_; clear n0_ n1_; (try clear hb); (try clear hb2); (try clear hk); (try clear hi)) | (go_at_call 109; (with_reducible refine (spec_l02AddrOK.calls a1 false _ A8.out).mono ?_); rintro e w' ⟨rfl, ⟨nd, rfl⟩⟩))
 go_meet
 case rel => exact ⟨_, (true), (by first | rfl | (simp; done) | (simp [*]; done)), H', ⟨by first | omega | exact Nat.le_refl _⟩, ⟨Bh BK253⟩, ⟨wB⟩⟩
 }
 }
 {
 replace c7 := Bool.eq_false_iff.mpr c7
 subst c7
 have H1 : (spec_EncodeSegment.j0 k a1 a2 true a0_0 a0_1 a0_2 a0_3 a0_4 a0_5 a0_6 a0_7 a0_8 a0_9 l0_10 l0_11) = some (r1, r2) := by rw [if_neg (show ¬ (false = true) by decide)] at H; exact H
 clear H
 have H := H1
 clear H1
 have H' := Aside0.mk H
 clear H
 obtain ⟨⟨hcz15_0, hcz15_1, hcz15_2, hcz15_3, hcz15_4, hcz15_5, hcz15_6, hcz15_7, hcz15_8, hcz15_9, hcz15_10, hcz15_11⟩, hfz15_0, hfz15_1, hfz15_2, hfz15_3, hfz15_4, hfz15_5, hfz15_6, hfz15_7, hfz15_8, hfz15_9, hfz15_10, hfz15_11⟩ := cells12 BK253.out
 go_wp2_with (first | ((with_reducible refine gate_callee (f := 122) rfl ?_); refine goesL_ (some 12) rfl rfl Try.func122 (by kernel_rfl) rfl #[.agg #[.int .i64 a0_0, .int .i64 a0_1, .int .i64 a0_2, .int .i64 a0_3, .int .i64 a0_4, .int .i64 a0_5, .int .i64 a0_6, .bool a0_7, .int .i64 a0_8, .bool a0_9, .slice A0_10 l0_10.length c0_10, .slice A0_11 l0_11.length c0_11]] rfl wT ?_; (with_reducible refine (spec_l11OK.calls k a0_0 a0_1 a0_2 a0_3 a0_4 a0_5 a0_6 a0_7 a0_8 a0_9 _ _ l0_10 _ _ l0_11 false _ ?side1 ?side2 ?side3 ?side4 A6.out).mono ?_); (case side1 => exact Kd.C_below HR0_10.out wB); (case side2 => exact HC0_10.out); (case side3 => exact Kd.C_below HR0_11.out wB); (case side4 => exact HC0_11.out); rintro e w16 ⟨rfl, hb⟩; refine ⟨_, rfl, ?_⟩; have n0_ := Aside0.mk (blk_below (Bh BK253) hb); have n1_ := Aside0.mk (below_step wB hb); clear BK253; clear HB; have BK253 := n0_; have HB := n1_; clear n0_ n1_; (try clear hb); (try clear hb2); (try clear hk); (try clear hi)))
 go_meet
 case rel => exact ⟨_, (true), (by first | rfl | (simp; done) | (simp [*]; done)), H', ⟨by first | omega | exact Nat.le_refl _⟩, ⟨Bh BK253⟩, ⟨wB⟩⟩
 }
 )
 case rest => (
 clear HC4
 try clear c1
 try clear p2
 try clear c6
 try clear c7
 try clear c9
 try clear c12
 try clear hcz11_0 hcz11_1 hcz11_10 hcz11_11 hcz11_2 hcz11_3 hcz11_4 hcz11_5 hcz11_6 hcz11_7 hcz11_8 hcz11_9 hfz11_0 hfz11_1 hfz11_10 hfz11_11 hfz11_2 hfz11_3 hfz11_4 hfz11_5 hfz11_6 hfz11_7 hfz11_8 hfz11_9
 try clear hcz13_0 hcz13_1 hcz13_10 hcz13_11 hcz13_2 hcz13_3 hcz13_4 hcz13_5 hcz13_6 hcz13_7 hcz13_8 hcz13_9 hfz13_0 hfz13_1 hfz13_10 hfz13_11 hfz13_2 hfz13_3 hfz13_4 hfz13_5 hfz13_6 hfz13_7 hfz13_8 hfz13_9
 try clear hcz15_0 hcz15_1 hcz15_10 hcz15_11 hcz15_2 hcz15_3 hcz15_4 hcz15_5 hcz15_6 hcz15_7 hcz15_8 hcz15_9 hfz15_0 hfz15_1 hfz15_10 hfz15_11 hfz15_2 hfz15_3 hfz15_4 hfz15_5 hfz15_6 hfz15_7 hfz15_8 hfz15_9
 obtain ⟨kq, x23_3, rfl, HA, HJ3, BK253, HB⟩ := hcut
 cases kq with
 | zero => exact absurd HA.out (by simp [spec_EncodeSegment.j0])
 | succ kj3 => {
 have H := HA.out
 clear HA
 simp only [spec_EncodeSegment.j0] at H
 by_cases c17 : x23_3 = true
 {
 subst c17
 have H1 : (some (([] : List Int), 1)) = some (r1, r2) := by rw [if_pos rfl] at H; exact H
 clear H
 have H := H1
 clear H1
 simp only [Option.some.injEq, Prod.mk.injEq] at H
 obtain ⟨rfl, rfl⟩ := H
 go_wp2
 go_ret2
 exact ⟨_, by first | rfl | (simp [errW_none, errW_some] <;> rfl) | (simp [*, errW_none, errW_some] <;> rfl), by first | exact Kd.R_nil _ _ _ _ _ | exact Kd.N_nil _ _ _ _ _ | exact Kd.V_nil _ _ _ _ _ | exact Kd.Q_nil _ _ _ _ _ | exact Kd.S_nil _ _ _ _ _, wB⟩
 }
 {
 replace c17 := Bool.eq_false_iff.mpr c17
 subst c17
 have H1 : ((spec_l11Options.f kj3 a0_0 a0_1 a0_2 a0_3 a0_4 a0_5 a0_6 a0_7 a0_8 a0_9 l0_10 l0_11).bind fun t257 => (if (wrap64 ((wrap64 (20 + (t257.length : Int))) + (l0_11.length : Int))) > 65515 then (some (([] : List Int), 7)) else ((spec_l03Put.f kj3 a0_0 2).bind fun t260 => ((spec_l03Put.f kj3 a0_1 2).bind fun t263 => ((spec_l01Join.f kj3 t260 t263).bind fun t266 => ((spec_l03Put.f kj3 a0_2 4).bind fun t269 => ((spec_l01Join.f kj3 t266 t269).bind fun t272 => ((spec_l03Put.f kj3 a0_3 4).bind fun t275 => ((spec_l01Join.f kj3 t272 t275).bind fun t278 => ((spec_l01Join.f kj3 t278 (([(wrap64 ((wrap64 (Int.tdiv (wrap64 (20 + (t257.length : Int))) 4)) * 16)) % 256, (a0_4) % 256] : List Int))).bind fun t284 => ((spec_l03Put.f kj3 a0_5 2).bind fun t287 => ((spec_l01Join.f kj3 t284 t287).bind fun t290 => ((spec_l01Join.f kj3 t290 (([0, 0, 0, 0] : List Int))).bind fun t296 => ((spec_l01Join.f kj3 t257 l0_11).bind fun t299 => ((spec_l01Join.f kj3 t296 t299).bind fun t302 => ((spec_l10Sum.f kj3 t302 a1 a2 6).bind fun t305 => (if 16 < (t302.length : Int) then (if 17 < (t302.length : Int) then (some (((t302.set (16 : Int).toNat ((t305 / 256) % 256)).set (17 : Int).toNat ((t305) % 256)), 0)) else (none)) else (none)))))))))))))))))) = some (r1, r2) := by rw [if_neg (show ¬ (false = true) by decide)] at H; exact H
 clear H
 have H := H1
 clear H1
 replace H := Option.bind_eq_some_iff.mp H
 obtain ⟨t257, A180, H⟩ := H
 replace H : (if (wrap64 ((wrap64 (20 + (t257.length : Int))) + (l0_11.length : Int))) > 65515 then (some (([] : List Int), 7)) else ((spec_l03Put.f kj3 a0_0 2).bind fun t260 => ((spec_l03Put.f kj3 a0_1 2).bind fun t263 => ((spec_l01Join.f kj3 t260 t263).bind fun t266 => ((spec_l03Put.f kj3 a0_2 4).bind fun t269 => ((spec_l01Join.f kj3 t266 t269).bind fun t272 => ((spec_l03Put.f kj3 a0_3 4).bind fun t275 => ((spec_l01Join.f kj3 t272 t275).bind fun t278 => ((spec_l01Join.f kj3 t278 (([(wrap64 ((wrap64 (Int.tdiv (wrap64 (20 + (t257.length : Int))) 4)) * 16)) % 256, (a0_4) % 256] : List Int))).bind fun t284 => ((spec_l03Put.f kj3 a0_5 2).bind fun t287 => ((spec_l01Join.f kj3 t284 t287).bind fun t290 => ((spec_l01Join.f kj3 t290 (([0, 0, 0, 0] : List Int))).bind fun t296 => ((spec_l01Join.f kj3 t257 l0_11).bind fun t299 => ((spec_l01Join.f kj3 t296 t299).bind fun t302 => ((spec_l10Sum.f kj3 t302 a1 a2 6).bind fun t305 => (if 16 < (t302.length : Int) then (if 17 < (t302.length : Int) then (some (((t302.set (16 : Int).toNat ((t305 / 256) % 256)).set (17 : Int).toNat ((t305) % 256)), 0)) else (none)) else (none))))))))))))))))) = some (r1, r2) := H
 have A18 := Aside0.mk A180
 clear A180
 by_cases c19 : (wrap64 ((wrap64 (20 + (t257.length : Int))) + (l0_11.length : Int))) > 65515
 {
 rw [if_pos c19] at H
 have c19b0 : decide (65515 < (wrap64 ((wrap64 (20 + (t257.length : Int))) + (l0_11.length : Int)))) = true := decide_eq_true c19
 clear c19
 simp only [Option.some.injEq, Prod.mk.injEq] at H
 obtain ⟨rfl, rfl⟩ := H
 obtain ⟨⟨hcz20_0, hcz20_1, hcz20_2, hcz20_3, hcz20_4, hcz20_5, hcz20_6, hcz20_7, hcz20_8, hcz20_9, hcz20_10, hcz20_11⟩, hfz20_0, hfz20_1, hfz20_2, hfz20_3, hfz20_4, hfz20_5, hfz20_6, hfz20_7, hfz20_8, hfz20_9, hfz20_10, hfz20_11⟩ := cells12 BK253.out
 go_wp2_with (first | ((with_reducible refine gate_callee (f := 123) rfl ?_); refine goesL_ (some 25) rfl rfl Try.func123 (by kernel_rfl) rfl #[.agg #[.int .i64 a0_0, .int .i64 a0_1, .int .i64 a0_2, .int .i64 a0_3, .int .i64 a0_4, .int .i64 a0_5, .int .i64 a0_6, .bool a0_7, .int .i64 a0_8, .bool a0_9, .slice A0_10 l0_10.length c0_10, .slice A0_11 l0_11.length c0_11]] rfl wT ?_; (with_reducible refine (spec_l11Options.calls kj3 a0_0 a0_1 a0_2 a0_3 a0_4 a0_5 a0_6 a0_7 a0_8 a0_9 _ _ l0_10 _ _ l0_11 t257 _ ?side1 ?side2 ?side3 ?side4 A18.out).mono ?_); (case side1 => exact Kd.C_below HR0_10.out wB); (case side2 => exact HC0_10.out); (case side3 => exact Kd.C_below HR0_11.out wB); (case side4 => exact HC0_11.out); rintro e w21 ⟨v258, rfl, ho0, hb⟩; refine ⟨_, rfl, ?_⟩; have n0_ := Aside0.mk (Kd.R_lower ho0 (below_size wB)); have n1_ := Aside0.mk (blk_below (Bh BK253) hb); have n2_ := Aside0.mk (below_step wB hb); clear BK253; clear HB; have HO259 := n0_; have BK253 := n1_; have HB := n2_; clear n0_ n1_ n2_; (try clear hb); (try clear hb2); (try clear hk); (try clear hi); (try clear ho0); obtain ⟨Ao22, co22, eo22⟩ := Kd.R_slice HO259.out; subst eo22; obtain ⟨⟨hcz23_0, hcz23_1, hcz23_2, hcz23_3, hcz23_4, hcz23_5, hcz23_6, hcz23_7, hcz23_8, hcz23_9, hcz23_10, hcz23_11⟩, hfz23_0, hfz23_1, hfz23_2, hfz23_3, hfz23_4, hfz23_5, hfz23_6, hfz23_7, hfz23_8, hfz23_9, hfz23_10, hfz23_11⟩ := cells12 BK253.out))
 go_ret2
 exact ⟨_, by first | rfl | (simp [errW_none, errW_some] <;> rfl) | (simp [*, errW_none, errW_some] <;> rfl), by first | exact Kd.R_nil _ _ _ _ _ | exact Kd.N_nil _ _ _ _ _ | exact Kd.V_nil _ _ _ _ _ | exact Kd.Q_nil _ _ _ _ _ | exact Kd.S_nil _ _ _ _ _, wB⟩
 }
 {
 rw [if_neg c19] at H
 have c19b0 : decide (65515 < (wrap64 ((wrap64 (20 + (t257.length : Int))) + (l0_11.length : Int)))) = false := decide_eq_false c19
 clear c19
 replace H := Option.bind_eq_some_iff.mp H
 obtain ⟨t260, A240, H⟩ := H
 replace H : ((spec_l03Put.f kj3 a0_1 2).bind fun t263 => ((spec_l01Join.f kj3 t260 t263).bind fun t266 => ((spec_l03Put.f kj3 a0_2 4).bind fun t269 => ((spec_l01Join.f kj3 t266 t269).bind fun t272 => ((spec_l03Put.f kj3 a0_3 4).bind fun t275 => ((spec_l01Join.f kj3 t272 t275).bind fun t278 => ((spec_l01Join.f kj3 t278 (([(wrap64 ((wrap64 (Int.tdiv (wrap64 (20 + (t257.length : Int))) 4)) * 16)) % 256, (a0_4) % 256] : List Int))).bind fun t284 => ((spec_l03Put.f kj3 a0_5 2).bind fun t287 => ((spec_l01Join.f kj3 t284 t287).bind fun t290 => ((spec_l01Join.f kj3 t290 (([0, 0, 0, 0] : List Int))).bind fun t296 => ((spec_l01Join.f kj3 t257 l0_11).bind fun t299 => ((spec_l01Join.f kj3 t296 t299).bind fun t302 => ((spec_l10Sum.f kj3 t302 a1 a2 6).bind fun t305 => (if 16 < (t302.length : Int) then (if 17 < (t302.length : Int) then (some (((t302.set (16 : Int).toNat ((t305 / 256) % 256)).set (17 : Int).toNat ((t305) % 256)), 0)) else (none)) else (none))))))))))))))) = some (r1, r2) := H
 have A24 := Aside0.mk A240
 clear A240
 replace H := Option.bind_eq_some_iff.mp H
 obtain ⟨t263, A250, H⟩ := H
 replace H : ((spec_l01Join.f kj3 t260 t263).bind fun t266 => ((spec_l03Put.f kj3 a0_2 4).bind fun t269 => ((spec_l01Join.f kj3 t266 t269).bind fun t272 => ((spec_l03Put.f kj3 a0_3 4).bind fun t275 => ((spec_l01Join.f kj3 t272 t275).bind fun t278 => ((spec_l01Join.f kj3 t278 (([(wrap64 ((wrap64 (Int.tdiv (wrap64 (20 + (t257.length : Int))) 4)) * 16)) % 256, (a0_4) % 256] : List Int))).bind fun t284 => ((spec_l03Put.f kj3 a0_5 2).bind fun t287 => ((spec_l01Join.f kj3 t284 t287).bind fun t290 => ((spec_l01Join.f kj3 t290 (([0, 0, 0, 0] : List Int))).bind fun t296 => ((spec_l01Join.f kj3 t257 l0_11).bind fun t299 => ((spec_l01Join.f kj3 t296 t299).bind fun t302 => ((spec_l10Sum.f kj3 t302 a1 a2 6).bind fun t305 => (if 16 < (t302.length : Int) then (if 17 < (t302.length : Int) then (some (((t302.set (16 : Int).toNat ((t305 / 256) % 256)).set (17 : Int).toNat ((t305) % 256)), 0)) else (none)) else (none)))))))))))))) = some (r1, r2) := H
 have A25 := Aside0.mk A250
 clear A250
 replace H := Option.bind_eq_some_iff.mp H
 obtain ⟨t266, A260, H⟩ := H
 replace H : ((spec_l03Put.f kj3 a0_2 4).bind fun t269 => ((spec_l01Join.f kj3 t266 t269).bind fun t272 => ((spec_l03Put.f kj3 a0_3 4).bind fun t275 => ((spec_l01Join.f kj3 t272 t275).bind fun t278 => ((spec_l01Join.f kj3 t278 (([(wrap64 ((wrap64 (Int.tdiv (wrap64 (20 + (t257.length : Int))) 4)) * 16)) % 256, (a0_4) % 256] : List Int))).bind fun t284 => ((spec_l03Put.f kj3 a0_5 2).bind fun t287 => ((spec_l01Join.f kj3 t284 t287).bind fun t290 => ((spec_l01Join.f kj3 t290 (([0, 0, 0, 0] : List Int))).bind fun t296 => ((spec_l01Join.f kj3 t257 l0_11).bind fun t299 => ((spec_l01Join.f kj3 t296 t299).bind fun t302 => ((spec_l10Sum.f kj3 t302 a1 a2 6).bind fun t305 => (if 16 < (t302.length : Int) then (if 17 < (t302.length : Int) then (some (((t302.set (16 : Int).toNat ((t305 / 256) % 256)).set (17 : Int).toNat ((t305) % 256)), 0)) else (none)) else (none))))))))))))) = some (r1, r2) := H
 have A26 := Aside0.mk A260
 clear A260
 replace H := Option.bind_eq_some_iff.mp H
 obtain ⟨t269, A270, H⟩ := H
 replace H : ((spec_l01Join.f kj3 t266 t269).bind fun t272 => ((spec_l03Put.f kj3 a0_3 4).bind fun t275 => ((spec_l01Join.f kj3 t272 t275).bind fun t278 => ((spec_l01Join.f kj3 t278 (([(wrap64 ((wrap64 (Int.tdiv (wrap64 (20 + (t257.length : Int))) 4)) * 16)) % 256, (a0_4) % 256] : List Int))).bind fun t284 => ((spec_l03Put.f kj3 a0_5 2).bind fun t287 => ((spec_l01Join.f kj3 t284 t287).bind fun t290 => ((spec_l01Join.f kj3 t290 (([0, 0, 0, 0] : List Int))).bind fun t296 => ((spec_l01Join.f kj3 t257 l0_11).bind fun t299 => ((spec_l01Join.f kj3 t296 t299).bind fun t302 => ((spec_l10Sum.f kj3 t302 a1 a2 6).bind fun t305 => (if 16 < (t302.length : Int) then (if 17 < (t302.length : Int) then (some (((t302.set (16 : Int).toNat ((t305 / 256) % 256)).set (17 : Int).toNat ((t305) % 256)), 0)) else (none)) else (none)))))))))))) = some (r1, r2) := H
 have A27 := Aside0.mk A270
 clear A270
 replace H := Option.bind_eq_some_iff.mp H
 obtain ⟨t272, A280, H⟩ := H
 replace H : ((spec_l03Put.f kj3 a0_3 4).bind fun t275 => ((spec_l01Join.f kj3 t272 t275).bind fun t278 => ((spec_l01Join.f kj3 t278 (([(wrap64 ((wrap64 (Int.tdiv (wrap64 (20 + (t257.length : Int))) 4)) * 16)) % 256, (a0_4) % 256] : List Int))).bind fun t284 => ((spec_l03Put.f kj3 a0_5 2).bind fun t287 => ((spec_l01Join.f kj3 t284 t287).bind fun t290 => ((spec_l01Join.f kj3 t290 (([0, 0, 0, 0] : List Int))).bind fun t296 => ((spec_l01Join.f kj3 t257 l0_11).bind fun t299 => ((spec_l01Join.f kj3 t296 t299).bind fun t302 => ((spec_l10Sum.f kj3 t302 a1 a2 6).bind fun t305 => (if 16 < (t302.length : Int) then (if 17 < (t302.length : Int) then (some (((t302.set (16 : Int).toNat ((t305 / 256) % 256)).set (17 : Int).toNat ((t305) % 256)), 0)) else (none)) else (none))))))))))) = some (r1, r2) := H
 have A28 := Aside0.mk A280
 clear A280
 replace H := Option.bind_eq_some_iff.mp H
 obtain ⟨t275, A290, H⟩ := H
 replace H : ((spec_l01Join.f kj3 t272 t275).bind fun t278 => ((spec_l01Join.f kj3 t278 (([(wrap64 ((wrap64 (Int.tdiv (wrap64 (20 + (t257.length : Int))) 4)) * 16)) % 256, (a0_4) % 256] : List Int))).bind fun t284 => ((spec_l03Put.f kj3 a0_5 2).bind fun t287 => ((spec_l01Join.f kj3 t284 t287).bind fun t290 => ((spec_l01Join.f kj3 t290 (([0, 0, 0, 0] : List Int))).bind fun t296 => ((spec_l01Join.f kj3 t257 l0_11).bind fun t299 => ((spec_l01Join.f kj3 t296 t299).bind fun t302 => ((spec_l10Sum.f kj3 t302 a1 a2 6).bind fun t305 => (if 16 < (t302.length : Int) then (if 17 < (t302.length : Int) then (some (((t302.set (16 : Int).toNat ((t305 / 256) % 256)).set (17 : Int).toNat ((t305) % 256)), 0)) else (none)) else (none)))))))))) = some (r1, r2) := H
 have A29 := Aside0.mk A290
 clear A290
 replace H := Option.bind_eq_some_iff.mp H
 obtain ⟨t278, A300, H⟩ := H
 replace H : ((spec_l01Join.f kj3 t278 (([(wrap64 ((wrap64 (Int.tdiv (wrap64 (20 + (t257.length : Int))) 4)) * 16)) % 256, (a0_4) % 256] : List Int))).bind fun t284 => ((spec_l03Put.f kj3 a0_5 2).bind fun t287 => ((spec_l01Join.f kj3 t284 t287).bind fun t290 => ((spec_l01Join.f kj3 t290 (([0, 0, 0, 0] : List Int))).bind fun t296 => ((spec_l01Join.f kj3 t257 l0_11).bind fun t299 => ((spec_l01Join.f kj3 t296 t299).bind fun t302 => ((spec_l10Sum.f kj3 t302 a1 a2 6).bind fun t305 => (if 16 < (t302.length : Int) then (if 17 < (t302.length : Int) then (some (((t302.set (16 : Int).toNat ((t305 / 256) % 256)).set (17 : Int).toNat ((t305) % 256)), 0)) else (none)) else (none))))))))) = some (r1, r2) := H
 have A30 := Aside0.mk A300
 clear A300
 obtain ⟨y281, hy281⟩ : ∃ y_ : List Int, y_ = (([(wrap64 ((wrap64 (Int.tdiv (wrap64 (20 + (t257.length : Int))) 4)) * 16)) % 256, (a0_4) % 256] : List Int)) := ⟨_, rfl⟩
 replace H : ((spec_l01Join.f kj3 t278 y281).bind fun t284 => ((spec_l03Put.f kj3 a0_5 2).bind fun t287 => ((spec_l01Join.f kj3 t284 t287).bind fun t290 => ((spec_l01Join.f kj3 t290 (([0, 0, 0, 0] : List Int))).bind fun t296 => ((spec_l01Join.f kj3 t257 l0_11).bind fun t299 => ((spec_l01Join.f kj3 t296 t299).bind fun t302 => ((spec_l10Sum.f kj3 t302 a1 a2 6).bind fun t305 => (if 16 < (t302.length : Int) then (if 17 < (t302.length : Int) then (some (((t302.set (16 : Int).toNat ((t305 / 256) % 256)).set (17 : Int).toNat ((t305) % 256)), 0)) else (none)) else (none))))))))) = some (r1, r2) := by first | (rw [hy281]; with_reducible exact H) | (have H2_ := (Option.bind_some _ _).symm.trans H; rw [hy281]; with_reducible exact H2_) | (have H2_ := (Option.bind_some _ _).symm.trans H; with_reducible exact H2_) | with_reducible exact H | (rw [hy281]; exact H) | exact H
 have Ny281 := Aside0.mk hy281
 clear hy281
 replace H := Option.bind_eq_some_iff.mp H
 obtain ⟨t284, A310, H⟩ := H
 replace H : ((spec_l03Put.f kj3 a0_5 2).bind fun t287 => ((spec_l01Join.f kj3 t284 t287).bind fun t290 => ((spec_l01Join.f kj3 t290 (([0, 0, 0, 0] : List Int))).bind fun t296 => ((spec_l01Join.f kj3 t257 l0_11).bind fun t299 => ((spec_l01Join.f kj3 t296 t299).bind fun t302 => ((spec_l10Sum.f kj3 t302 a1 a2 6).bind fun t305 => (if 16 < (t302.length : Int) then (if 17 < (t302.length : Int) then (some (((t302.set (16 : Int).toNat ((t305 / 256) % 256)).set (17 : Int).toNat ((t305) % 256)), 0)) else (none)) else (none)))))))) = some (r1, r2) := H
 have A31 := Aside0.mk A310
 clear A310
 replace H := Option.bind_eq_some_iff.mp H
 obtain ⟨t287, A320, H⟩ := H
 replace H : ((spec_l01Join.f kj3 t284 t287).bind fun t290 => ((spec_l01Join.f kj3 t290 (([0, 0, 0, 0] : List Int))).bind fun t296 => ((spec_l01Join.f kj3 t257 l0_11).bind fun t299 => ((spec_l01Join.f kj3 t296 t299).bind fun t302 => ((spec_l10Sum.f kj3 t302 a1 a2 6).bind fun t305 => (if 16 < (t302.length : Int) then (if 17 < (t302.length : Int) then (some (((t302.set (16 : Int).toNat ((t305 / 256) % 256)).set (17 : Int).toNat ((t305) % 256)), 0)) else (none)) else (none))))))) = some (r1, r2) := H
 have A32 := Aside0.mk A320
 clear A320
 replace H := Option.bind_eq_some_iff.mp H
 obtain ⟨t290, A330, H⟩ := H
 replace H : ((spec_l01Join.f kj3 t290 (([0, 0, 0, 0] : List Int))).bind fun t296 => ((spec_l01Join.f kj3 t257 l0_11).bind fun t299 => ((spec_l01Join.f kj3 t296 t299).bind fun t302 => ((spec_l10Sum.f kj3 t302 a1 a2 6).bind fun t305 => (if 16 < (t302.length : Int) then (if 17 < (t302.length : Int) then (some (((t302.set (16 : Int).toNat ((t305 / 256) % 256)).set (17 : Int).toNat ((t305) % 256)), 0)) else (none)) else (none)))))) = some (r1, r2) := H
 have A33 := Aside0.mk A330
 clear A330
 obtain ⟨y293, hy293⟩ : ∃ y_ : List Int, y_ = (([0, 0, 0, 0] : List Int)) := ⟨_, rfl⟩
 replace H : ((spec_l01Join.f kj3 t290 y293).bind fun t296 => ((spec_l01Join.f kj3 t257 l0_11).bind fun t299 => ((spec_l01Join.f kj3 t296 t299).bind fun t302 => ((spec_l10Sum.f kj3 t302 a1 a2 6).bind fun t305 => (if 16 < (t302.length : Int) then (if 17 < (t302.length : Int) then (some (((t302.set (16 : Int).toNat ((t305 / 256) % 256)).set (17 : Int).toNat ((t305) % 256)), 0)) else (none)) else (none)))))) = some (r1, r2) := by first | (rw [hy293]; with_reducible exact H) | (have H2_ := (Option.bind_some _ _).symm.trans H; rw [hy293]; with_reducible exact H2_) | (have H2_ := (Option.bind_some _ _).symm.trans H; with_reducible exact H2_) | with_reducible exact H | (rw [hy293]; exact H) | exact H
 have Ny293 := Aside0.mk hy293
 clear hy293
 replace H := Option.bind_eq_some_iff.mp H
 obtain ⟨t296, A340, H⟩ := H
 replace H : ((spec_l01Join.f kj3 t257 l0_11).bind fun t299 => ((spec_l01Join.f kj3 t296 t299).bind fun t302 => ((spec_l10Sum.f kj3 t302 a1 a2 6).bind fun t305 => (if 16 < (t302.length : Int) then (if 17 < (t302.length : Int) then (some (((t302.set (16 : Int).toNat ((t305 / 256) % 256)).set (17 : Int).toNat ((t305) % 256)), 0)) else (none)) else (none))))) = some (r1, r2) := H
 have A34 := Aside0.mk A340
 clear A340
 replace H := Option.bind_eq_some_iff.mp H
 obtain ⟨t299, A350, H⟩ := H
 replace H : ((spec_l01Join.f kj3 t296 t299).bind fun t302 => ((spec_l10Sum.f kj3 t302 a1 a2 6).bind fun t305 => (if 16 < (t302.length : Int) then (if 17 < (t302.length : Int) then (some (((t302.set (16 : Int).toNat ((t305 / 256) % 256)).set (17 : Int).toNat ((t305) % 256)), 0)) else (none)) else (none)))) = some (r1, r2) := H
 have A35 := Aside0.mk A350
 clear A350
 replace H := Option.bind_eq_some_iff.mp H
 obtain ⟨t302, A360, H⟩ := H
 replace H : ((spec_l10Sum.f kj3 t302 a1 a2 6).bind fun t305 => (if 16 < (t302.length : Int) then (if 17 < (t302.length : Int) then (some (((t302.set (16 : Int).toNat ((t305 / 256) % 256)).set (17 : Int).toNat ((t305) % 256)), 0)) else (none)) else (none))) = some (r1, r2) := H
 have A36 := Aside0.mk A360
 clear A360
 replace H := Option.bind_eq_some_iff.mp H
 obtain ⟨t305, A370, H⟩ := H
 replace H : (if 16 < (t302.length : Int) then (if 17 < (t302.length : Int) then (some (((t302.set (16 : Int).toNat ((t305 / 256) % 256)).set (17 : Int).toNat ((t305) % 256)), 0)) else (none)) else (none)) = some (r1, r2) := H
 have A37 := Aside0.mk A370
 clear A370
 by_cases c38 : 16 < (t302.length : Int)
 {
 rw [if_pos c38] at H
 have c38b0 : decide (16 < (t302.length : Int)) = true := decide_eq_true c38
 have c38b1 : decide (16 < t302.length) = true := decide_eq_true (by omega)
 clear c38
 obtain ⟨y306, hy306⟩ : ∃ y_ : List Int, y_ = (t302.set (16 : Int).toNat ((t305 / 256) % 256)) := ⟨_, rfl⟩
 replace H : (if 17 < (t302.length : Int) then (some ((y306.set (17 : Int).toNat ((t305) % 256)), 0)) else (none)) = some (r1, r2) := by first | (rw [hy306]; with_reducible exact H) | (have H2_ := (Option.bind_some _ _).symm.trans H; rw [hy306]; with_reducible exact H2_) | (have H2_ := (Option.bind_some _ _).symm.trans H; with_reducible exact H2_) | with_reducible exact H | (rw [hy306]; exact H) | exact H
 have Ny306 := Aside0.mk hy306
 clear hy306
 by_cases c40 : 17 < (t302.length : Int)
 {
 rw [if_pos c40] at H
 have c40b0 : decide (17 < (t302.length : Int)) = true := decide_eq_true c40
 have c40b1 : decide (17 < t302.length) = true := decide_eq_true (by omega)
 clear c40
 obtain ⟨y307, hy307⟩ : ∃ y_ : List Int, y_ = (y306.set (17 : Int).toNat ((t305) % 256)) := ⟨_, rfl⟩
 replace H : (some (y307, 0)) = some (r1, r2) := by first | (rw [hy307]; with_reducible exact H) | (have H2_ := (Option.bind_some _ _).symm.trans H; rw [hy307]; with_reducible exact H2_) | (have H2_ := (Option.bind_some _ _).symm.trans H; with_reducible exact H2_) | with_reducible exact H | (rw [hy307]; exact H) | exact H
 have Ny307 := Aside0.mk hy307
 clear hy307
 simp only [Option.some.injEq, Prod.mk.injEq] at H
 obtain ⟨rfl, rfl⟩ := H
 obtain ⟨⟨hcz42_0, hcz42_1, hcz42_2, hcz42_3, hcz42_4, hcz42_5, hcz42_6, hcz42_7, hcz42_8, hcz42_9, hcz42_10, hcz42_11⟩, hfz42_0, hfz42_1, hfz42_2, hfz42_3, hfz42_4, hfz42_5, hfz42_6, hfz42_7, hfz42_8, hfz42_9, hfz42_10, hfz42_11⟩ := cells12 BK253.out
 try go_wp2_with (first | ((with_reducible refine gate_callee (f := 123) rfl ?_); refine goesL_ (some 25) rfl rfl Try.func123 (by kernel_rfl) rfl #[.agg #[.int .i64 a0_0, .int .i64 a0_1, .int .i64 a0_2, .int .i64 a0_3, .int .i64 a0_4, .int .i64 a0_5, .int .i64 a0_6, .bool a0_7, .int .i64 a0_8, .bool a0_9, .slice A0_10 l0_10.length c0_10, .slice A0_11 l0_11.length c0_11]] rfl wT ?_; (with_reducible refine (spec_l11Options.calls kj3 a0_0 a0_1 a0_2 a0_3 a0_4 a0_5 a0_6 a0_7 a0_8 a0_9 _ _ l0_10 _ _ l0_11 t257 _ ?side1 ?side2 ?side3 ?side4 A18.out).mono ?_); (case side1 => exact Kd.C_below HR0_10.out wB); (case side2 => exact HC0_10.out); (case side3 => exact Kd.C_below HR0_11.out wB); (case side4 => exact HC0_11.out); rintro e w43 ⟨v258, rfl, ho0, hb⟩; refine ⟨_, rfl, ?_⟩; have n0_ := Aside0.mk (Kd.R_lower ho0 (below_size wB)); have n1_ := Aside0.mk (blk_below (Bh BK253) hb); have n2_ := Aside0.mk (below_step wB hb); clear BK253; clear HB; have HO259 := n0_; have BK253 := n1_; have HB := n2_; clear n0_ n1_ n2_; (try clear hb); (try clear hb2); (try clear hk); (try clear hi); (try clear ho0); obtain ⟨Ao44, co44, eo44⟩ := Kd.R_slice HO259.out; subst eo44; obtain ⟨⟨hcz45_0, hcz45_1, hcz45_2, hcz45_3, hcz45_4, hcz45_5, hcz45_6, hcz45_7, hcz45_8, hcz45_9, hcz45_10, hcz45_11⟩, hfz45_0, hfz45_1, hfz45_2, hfz45_3, hfz45_4, hfz45_5, hfz45_6, hfz45_7, hfz45_8, hfz45_9, hfz45_10, hfz45_11⟩ := cells12 BK253.out))
 have n0_ := Aside0.mk (Kd.R_drew HO259.out)
 have n1_ := Aside0.mk (blk_drew BK253.out)
 have n2_ := Aside0.mk (below_drew1 HB.out)
 clear HO259
 clear BK253
 clear HB
 have HO259 := n0_
 have BK253 := n1_
 have HB := n2_
 clear n0_ n1_ n2_
 refine start_ (n := 8) (S := fun w' => w'.cell? ⟨gb253, 0, none⟩ = some (.int .i64 a0_0) ∧ w'.cell? ⟨gb253, 1, none⟩ = some (.int .i64 a0_1) ∧ w'.cell? ⟨gb253, 2, none⟩ = some (.int .i64 a0_2) ∧ w'.cell? ⟨gb253, 3, none⟩ = some (.int .i64 a0_3) ∧ w'.cell? ⟨gb253, 4, none⟩ = some (.int .i64 a0_4) ∧ w'.cell? ⟨gb253, 5, none⟩ = some (.int .i64 a0_5) ∧ w'.cell? ⟨gb253, 6, none⟩ = some (.int .i64 a0_6) ∧ w'.cell? ⟨gb253, 7, none⟩ = some (.bool a0_7) ∧ w'.cell? ⟨gb253, 8, none⟩ = some (.int .i64 a0_8) ∧ w'.cell? ⟨gb253, 9, none⟩ = some (.bool a0_9) ∧ w'.cell? ⟨gb253, 10, none⟩ = some (.slice A0_10 l0_10.length c0_10) ∧ w'.cell? ⟨gb253, 11, none⟩ = some (.slice A0_11 l0_11.length c0_11)) (ds := []) #[false, false, false, false, false, false, false, false] (by kernel_rfl) rfl rfl ⟨(blk_cell BK253.out 0).trans rfl, (blk_cell BK253.out 1).trans rfl, (blk_cell BK253.out 2).trans rfl, (blk_cell BK253.out 3).trans rfl, (blk_cell BK253.out 4).trans rfl, (blk_cell BK253.out 5).trans rfl, (blk_cell BK253.out 6).trans rfl, (blk_cell BK253.out 7).trans rfl, (blk_cell BK253.out 8).trans rfl, (blk_cell BK253.out 9).trans rfl, (blk_cell BK253.out 10).trans rfl, (blk_cell BK253.out 11).trans rfl⟩ (fun hHeld => ?_); refine with_tabW spec_EncodeSegment.tab6 spec_EncodeSegment.bits6 (fun HT_ HW_ => ?_)
 generalize w43.drew = w46 at HO259 BK253 HB hHeld ⊢
 refine pure_ (i := 0) (N := some 34) (v := ?_) (a' := ?_) #[true, false, false, false, false, false, false, false] rfl rfl (any_of HT_.out (by kernel_rfl)) (fun _ _ _ h => h) (Or.inl ⟨by rfl, ?_⟩) ?_ ?_
 rotate_left
 {
 intro w'
 go_simp
 with_reducible rfl
 }
 rotate_left
 {
 simp only [Act.put, List.setIfInBounds_toArray, List.set_cons_zero, List.set_cons_succ, i64_w, i32_w]
 rfl
 }
 refine pure_ (i := 3) (N := some 37) (v := ?_) (a' := ?_) #[true, false, false, true, false, false, false, false] rfl rfl (any_of HT_.out (by kernel_rfl)) (fun _ _ _ h => h) (Or.inl ⟨by rfl, ?_⟩) ?_ ?_
 rotate_left
 {
 intro w'
 go_simp
 with_reducible rfl
 }
 rotate_left
 {
 simp only [Act.put, List.setIfInBounds_toArray, List.set_cons_zero, List.set_cons_succ, i64_w, i32_w]
 rfl
 }
 refine take_ (i := 1) (N := some 35) (v := ?_) (a' := ?_) #[true, true, false, true, false, false, false, false] rfl rfl (take_ofW HT_.out HW_.out (by kernel_rfl)) (fun _ _ _ h => h) (Or.inl ⟨by rfl, ?_⟩) hHeld ?_ ?_
 rotate_left
 {
 rintro w' ⟨s0, s1, s2, s3, s4, s5, s6, s7, s8, s9, s10, s11⟩
 go_simp
 with_reducible rfl
 }
 rotate_left
 {
 simp only [Act.put, List.setIfInBounds_toArray, List.set_cons_zero, List.set_cons_succ, i64_w, i32_w]
 rfl
 }
 refine take_ (i := 4) (N := some 38) (v := ?_) (a' := ?_) #[true, true, false, true, true, false, false, false] rfl rfl (take_ofW HT_.out HW_.out (by kernel_rfl)) (fun _ _ _ h => h) (Or.inl ⟨by rfl, ?_⟩) hHeld ?_ ?_
 rotate_left
 {
 rintro w' ⟨s0, s1, s2, s3, s4, s5, s6, s7, s8, s9, s10, s11⟩
 go_simp
 with_reducible rfl
 }
 rotate_left
 {
 simp only [Act.put, List.setIfInBounds_toArray, List.set_cons_zero, List.set_cons_succ, i64_w, i32_w]
 rfl
 }
 refine one_ (i := 2) (N := some 36) #[true, true, true, true, true, false, false, false] rfl rfl (one_of HT_.out (by kernel_rfl)) (by decide) (fun K hK => ?_)
 refine goes_ Try.func124 (by kernel_rfl) rfl #[.int .i64 a0_0, .int .i64 2] (by rfl) rfl rfl wT ?_
 with_reducible refine (spec_l03Put.calls kj3 a0_0 2 t260 _ A24.out).mono ?_
 rintro e w47 ⟨v261, rfl, ho0, hb⟩
 refine ⟨_, rfl, ?_⟩
 have n0_ := Aside0.mk (Kd.R_elder' (Rh HO259) (Kd.R_base ho0) hb)
 have n1_ := Aside0.mk (Kd.R_lower (Kd.R_new' ho0 (Kd.R_lt (Rh HO259))) (below_size wB))
 have n2_ := Aside0.mk (blk_below (Bh BK253) hb)
 have n3_ := Aside0.mk (below_step wB hb)
 clear HO259
 clear BK253
 clear HB
 have HO259 := n0_
 have HO262 := n1_
 have BK253 := n2_
 have HB := n3_
 clear n0_ n1_ n2_ n3_
 (try clear hb)
 (try clear hb2)
 (try clear hk)
 (try clear hi)
 (try clear ho0)
 refine hK.out _ _ ⟨(blk_cell BK253.out 0).trans rfl, (blk_cell BK253.out 1).trans rfl, (blk_cell BK253.out 2).trans rfl, (blk_cell BK253.out 3).trans rfl, (blk_cell BK253.out 4).trans rfl, (blk_cell BK253.out 5).trans rfl, (blk_cell BK253.out 6).trans rfl, (blk_cell BK253.out 7).trans rfl, (blk_cell BK253.out 8).trans rfl, (blk_cell BK253.out 9).trans rfl, (blk_cell BK253.out 10).trans rfl, (blk_cell BK253.out 11).trans rfl⟩ (fun hHeld => ?_)
 clear hK K
 refine norm_ (a' := ?_) ?_ ?_
 rotate_left
 {
 show Act.put _ (some 36) _ = _
 simp only [Act.put, List.setIfInBounds_toArray, List.set_cons_zero, List.set_cons_succ, i64_w, i32_w]
 rfl
 }
 refine one_ (i := 5) (N := some 39) #[true, true, true, true, true, true, false, false] rfl rfl (one_of HT_.out (by kernel_rfl)) (by decide) (fun K hK => ?_)
 refine goes_ Try.func124 (by kernel_rfl) rfl #[.int .i64 a0_1, .int .i64 2] (by rfl) rfl rfl wT ?_
 with_reducible refine (spec_l03Put.calls kj3 a0_1 2 t263 _ A25.out).mono ?_
 rintro e w48 ⟨v264, rfl, ho0, hb⟩
 refine ⟨_, rfl, ?_⟩
 have n0_ := Aside0.mk (Kd.R_elder' (Rh HO259) (Kd.R_base ho0) hb)
 have n1_ := Aside0.mk (Kd.R_elder' (Rh HO262) (Kd.R_base ho0) hb)
 have n2_ := Aside0.mk (Kd.R_lower (Kd.R_new' (Kd.R_new' ho0 (Kd.R_lt (Rh HO259))) (Kd.R_lt (Rh HO262))) (below_size wB))
 have n3_ := Aside0.mk (blk_below (Bh BK253) hb)
 have n4_ := Aside0.mk (below_step wB hb)
 clear HO259
 clear HO262
 clear BK253
 clear HB
 have HO259 := n0_
 have HO262 := n1_
 have HO265 := n2_
 have BK253 := n3_
 have HB := n4_
 clear n0_ n1_ n2_ n3_ n4_
 (try clear hb)
 (try clear hb2)
 (try clear hk)
 (try clear hi)
 (try clear ho0)
 obtain ⟨Ao49, co49, eo49⟩ := Kd.R_slice HO262.out
 (first | subst eo49 | (injection eo49 with f1_ f2_ f3_; have f4_ := f1_.symm; have f5_ := f3_.symm; clear f1_ f2_ f3_; subst f4_; subst f5_))
 obtain ⟨Ao50, co50, eo50⟩ := Kd.R_slice HO265.out
 (first | subst eo50 | (injection eo50 with f1_ f2_ f3_; have f4_ := f1_.symm; have f5_ := f3_.symm; clear f1_ f2_ f3_; subst f4_; subst f5_))
 refine hK.out _ _ ⟨(blk_cell BK253.out 0).trans rfl, (blk_cell BK253.out 1).trans rfl, (blk_cell BK253.out 2).trans rfl, (blk_cell BK253.out 3).trans rfl, (blk_cell BK253.out 4).trans rfl, (blk_cell BK253.out 5).trans rfl, (blk_cell BK253.out 6).trans rfl, (blk_cell BK253.out 7).trans rfl, (blk_cell BK253.out 8).trans rfl, (blk_cell BK253.out 9).trans rfl, (blk_cell BK253.out 10).trans rfl, (blk_cell BK253.out 11).trans rfl⟩ (fun hHeld => ?_)
 clear hK K
 refine norm_ (a' := ?_) ?_ ?_
 rotate_left
 {
 show Act.put _ (some 39) _ = _
 simp only [Act.put, List.setIfInBounds_toArray, List.set_cons_zero, List.set_cons_succ, i64_w, i32_w]
 rfl
 }
 refine one_ (i := 6) (N := some 40) #[true, true, true, true, true, true, true, false] rfl rfl (one_of HT_.out (by kernel_rfl)) (by decide) (fun K hK => ?_)
 refine goes_ Try.func119 (by kernel_rfl) rfl #[.slice Ao49 t260.length co49, .slice Ao50 t263.length co50] (by rfl) rfl rfl wT ?_
 with_reducible refine (spec_l01Join.calls kj3 _ _ t260 _ _ t263 t266 _ ?side1 ?side2 ?side3 ?side4 A26.out).mono ?_
 (case side1 => exact Ch HO262)
 (case side2 => exact (Kd.R_reads' HO262.out).2.1)
 (case side3 => exact Ch HO265)
 (case side4 => exact (Kd.R_reads' HO265.out).2.1)
 rintro e w51 ⟨v267, rfl, ho0, hb⟩
 refine ⟨_, rfl, ?_⟩
 have n0_ := Aside0.mk (Kd.R_elder' (Rh HO259) (Kd.R_base ho0) hb)
 have n1_ := Aside0.mk (Kd.R_elder' (Rh HO262) (Kd.R_base ho0) hb)
 have n2_ := Aside0.mk (Kd.R_elder' (Rh HO265) (Kd.R_base ho0) hb)
 have n3_ := Aside0.mk (Kd.R_lower (Kd.R_new' (Kd.R_new' (Kd.R_new' ho0 (Kd.R_lt (Rh HO259))) (Kd.R_lt (Rh HO262))) (Kd.R_lt (Rh HO265))) (below_size wB))
 have n4_ := Aside0.mk (blk_below (Bh BK253) hb)
 have n5_ := Aside0.mk (below_step wB hb)
 clear HO259
 clear HO262
 clear HO265
 clear BK253
 clear HB
 have HO259 := n0_
 have HO262 := n1_
 have HO265 := n2_
 have HO268 := n3_
 have BK253 := n4_
 have HB := n5_
 clear n0_ n1_ n2_ n3_ n4_ n5_
 (try clear hb)
 (try clear hb2)
 (try clear hk)
 (try clear hi)
 (try clear ho0)
 refine hK.out _ _ ⟨(blk_cell BK253.out 0).trans rfl, (blk_cell BK253.out 1).trans rfl, (blk_cell BK253.out 2).trans rfl, (blk_cell BK253.out 3).trans rfl, (blk_cell BK253.out 4).trans rfl, (blk_cell BK253.out 5).trans rfl, (blk_cell BK253.out 6).trans rfl, (blk_cell BK253.out 7).trans rfl, (blk_cell BK253.out 8).trans rfl, (blk_cell BK253.out 9).trans rfl, (blk_cell BK253.out 10).trans rfl, (blk_cell BK253.out 11).trans rfl⟩ (fun hHeld => ?_)
 clear hK K
 refine norm_ (a' := ?_) ?_ ?_
 rotate_left
 {
 show Act.put _ (some 40) _ = _
 simp only [Act.put, List.setIfInBounds_toArray, List.set_cons_zero, List.set_cons_succ, i64_w, i32_w]
 rfl
 }
 refine pure_ (i := 7) (N := some 9) (v := ?_) (a' := ?_) #[true, true, true, true, true, true, true, true] rfl rfl (any_of HT_.out (by kernel_rfl)) (fun _ _ _ h => h) (Or.inl ⟨by rfl, ?_⟩) ?_ ?_
 rotate_left
 {
 intro w'
 go_simp
 with_reducible rfl
 }
 rotate_left
 {
 simp only [Act.put, List.setIfInBounds_toArray, List.set_cons_zero, List.set_cons_succ, i64_w, i32_w]
 rfl
 }
 refine done_ (done_of HT_.out (by kernel_rfl)) ?_
 try go_wp2
 have n0_ := Aside0.mk (Kd.R_drew HO259.out)
 have n1_ := Aside0.mk (Kd.R_drew HO262.out)
 have n2_ := Aside0.mk (Kd.R_drew HO265.out)
 have n3_ := Aside0.mk (Kd.R_drew HO268.out)
 have n4_ := Aside0.mk (blk_drew BK253.out)
 have n5_ := Aside0.mk (below_drew1 HB.out)
 clear HO259
 clear HO262
 clear HO265
 clear HO268
 clear BK253
 clear HB
 have HO259 := n0_
 have HO262 := n1_
 have HO265 := n2_
 have HO268 := n3_
 have BK253 := n4_
 have HB := n5_
 clear n0_ n1_ n2_ n3_ n4_ n5_
 refine start_ (n := 10) (S := fun w' => w'.cell? ⟨gb253, 0, none⟩ = some (.int .i64 a0_0) ∧ w'.cell? ⟨gb253, 1, none⟩ = some (.int .i64 a0_1) ∧ w'.cell? ⟨gb253, 2, none⟩ = some (.int .i64 a0_2) ∧ w'.cell? ⟨gb253, 3, none⟩ = some (.int .i64 a0_3) ∧ w'.cell? ⟨gb253, 4, none⟩ = some (.int .i64 a0_4) ∧ w'.cell? ⟨gb253, 5, none⟩ = some (.int .i64 a0_5) ∧ w'.cell? ⟨gb253, 6, none⟩ = some (.int .i64 a0_6) ∧ w'.cell? ⟨gb253, 7, none⟩ = some (.bool a0_7) ∧ w'.cell? ⟨gb253, 8, none⟩ = some (.int .i64 a0_8) ∧ w'.cell? ⟨gb253, 9, none⟩ = some (.bool a0_9) ∧ w'.cell? ⟨gb253, 10, none⟩ = some (.slice A0_10 l0_10.length c0_10) ∧ w'.cell? ⟨gb253, 11, none⟩ = some (.slice A0_11 l0_11.length c0_11)) (ds := []) #[false, false, false, false, false, false, false, false, false, false] (by kernel_rfl) rfl rfl ⟨(blk_cell BK253.out 0).trans rfl, (blk_cell BK253.out 1).trans rfl, (blk_cell BK253.out 2).trans rfl, (blk_cell BK253.out 3).trans rfl, (blk_cell BK253.out 4).trans rfl, (blk_cell BK253.out 5).trans rfl, (blk_cell BK253.out 6).trans rfl, (blk_cell BK253.out 7).trans rfl, (blk_cell BK253.out 8).trans rfl, (blk_cell BK253.out 9).trans rfl, (blk_cell BK253.out 10).trans rfl, (blk_cell BK253.out 11).trans rfl⟩ (fun hHeld => ?_); refine with_tabW spec_EncodeSegment.tab7 spec_EncodeSegment.bits7 (fun HT_ HW_ => ?_)
 generalize w51.drew = w52 at HO259 HO262 HO265 HO268 BK253 HB hHeld ⊢
 refine pure_ (i := 0) (N := some 41) (v := ?_) (a' := ?_) #[true, false, false, false, false, false, false, false, false, false] rfl rfl (any_of HT_.out (by kernel_rfl)) (fun _ _ _ h => h) (Or.inl ⟨by rfl, ?_⟩) ?_ ?_
 rotate_left
 {
 intro w'
 go_simp
 with_reducible rfl
 }
 rotate_left
 {
 simp only [Act.put, List.setIfInBounds_toArray, List.set_cons_zero, List.set_cons_succ, i64_w, i32_w]
 rfl
 }
 refine pure_ (i := 1) (N := some 42) (v := ?_) (a' := ?_) #[true, true, false, false, false, false, false, false, false, false] rfl rfl (any_of HT_.out (by kernel_rfl)) (fun _ _ _ h => h) (Or.inl ⟨by rfl, ?_⟩) ?_ ?_
 rotate_left
 {
 intro w'
 go_simp
 with_reducible rfl
 }
 rotate_left
 {
 simp only [Act.put, List.setIfInBounds_toArray, List.set_cons_zero, List.set_cons_succ, i64_w, i32_w]
 rfl
 }
 refine pure_ (i := 5) (N := some 46) (v := ?_) (a' := ?_) #[true, true, false, false, false, true, false, false, false, false] rfl rfl (any_of HT_.out (by kernel_rfl)) (fun _ _ _ h => h) (Or.inl ⟨by rfl, ?_⟩) ?_ ?_
 rotate_left
 {
 intro w'
 go_simp
 with_reducible rfl
 }
 rotate_left
 {
 simp only [Act.put, List.setIfInBounds_toArray, List.set_cons_zero, List.set_cons_succ, i64_w, i32_w]
 rfl
 }
 refine take_ (i := 2) (N := some 43) (v := ?_) (a' := ?_) #[true, true, true, false, false, true, false, false, false, false] rfl rfl (take_ofW HT_.out HW_.out (by kernel_rfl)) (fun _ _ _ h => h) (Or.inl ⟨by rfl, ?_⟩) hHeld ?_ ?_
 rotate_left
 {
 rintro w' ⟨s0, s1, s2, s3, s4, s5, s6, s7, s8, s9, s10, s11⟩
 go_simp
 with_reducible rfl
 }
 rotate_left
 {
 simp only [Act.put, List.setIfInBounds_toArray, List.set_cons_zero, List.set_cons_succ, i64_w, i32_w]
 rfl
 }
 refine take_ (i := 6) (N := some 47) (v := ?_) (a' := ?_) #[true, true, true, false, false, true, true, false, false, false] rfl rfl (take_ofW HT_.out HW_.out (by kernel_rfl)) (fun _ _ _ h => h) (Or.inl ⟨by rfl, ?_⟩) hHeld ?_ ?_
 rotate_left
 {
 rintro w' ⟨s0, s1, s2, s3, s4, s5, s6, s7, s8, s9, s10, s11⟩
 go_simp
 with_reducible rfl
 }
 rotate_left
 {
 simp only [Act.put, List.setIfInBounds_toArray, List.set_cons_zero, List.set_cons_succ, i64_w, i32_w]
 rfl
 }
 refine one_ (i := 3) (N := some 44) #[true, true, true, true, false, true, true, false, false, false] rfl rfl (one_of HT_.out (by kernel_rfl)) (by decide) (fun K hK => ?_)
 refine goes_ Try.func124 (by kernel_rfl) rfl #[.int .i64 a0_2, .int .i64 4] (by rfl) rfl rfl wT ?_
 with_reducible refine (spec_l03Put.calls kj3 a0_2 4 t269 _ A27.out).mono ?_
 rintro e w53 ⟨v270, rfl, ho0, hb⟩
 refine ⟨_, rfl, ?_⟩
 have n0_ := Aside0.mk (Kd.R_elder' (Rh HO259) (Kd.R_base ho0) hb)
 have n1_ := Aside0.mk (Kd.R_elder' (Rh HO262) (Kd.R_base ho0) hb)
 have n2_ := Aside0.mk (Kd.R_elder' (Rh HO265) (Kd.R_base ho0) hb)
 have n3_ := Aside0.mk (Kd.R_elder' (Rh HO268) (Kd.R_base ho0) hb)
 have n4_ := Aside0.mk (Kd.R_lower (Kd.R_new' (Kd.R_new' (Kd.R_new' (Kd.R_new' ho0 (Kd.R_lt (Rh HO259))) (Kd.R_lt (Rh HO262))) (Kd.R_lt (Rh HO265))) (Kd.R_lt (Rh HO268))) (below_size wB))
 have n5_ := Aside0.mk (blk_below (Bh BK253) hb)
 have n6_ := Aside0.mk (below_step wB hb)
 clear HO259
 clear HO262
 clear HO265
 clear HO268
 clear BK253
 clear HB
 have HO259 := n0_
 have HO262 := n1_
 have HO265 := n2_
 have HO268 := n3_
 have HO271 := n4_
 have BK253 := n5_
 have HB := n6_
 clear n0_ n1_ n2_ n3_ n4_ n5_ n6_
 (try clear hb)
 (try clear hb2)
 (try clear hk)
 (try clear hi)
 (try clear ho0)
 obtain ⟨Ao54, co54, eo54⟩ := Kd.R_slice HO268.out
 (first | subst eo54 | (injection eo54 with f1_ f2_ f3_; have f4_ := f1_.symm; have f5_ := f3_.symm; clear f1_ f2_ f3_; subst f4_; subst f5_))
 obtain ⟨Ao55, co55, eo55⟩ := Kd.R_slice HO271.out
 (first | subst eo55 | (injection eo55 with f1_ f2_ f3_; have f4_ := f1_.symm; have f5_ := f3_.symm; clear f1_ f2_ f3_; subst f4_; subst f5_))
 refine hK.out _ _ ⟨(blk_cell BK253.out 0).trans rfl, (blk_cell BK253.out 1).trans rfl, (blk_cell BK253.out 2).trans rfl, (blk_cell BK253.out 3).trans rfl, (blk_cell BK253.out 4).trans rfl, (blk_cell BK253.out 5).trans rfl, (blk_cell BK253.out 6).trans rfl, (blk_cell BK253.out 7).trans rfl, (blk_cell BK253.out 8).trans rfl, (blk_cell BK253.out 9).trans rfl, (blk_cell BK253.out 10).trans rfl, (blk_cell BK253.out 11).trans rfl⟩ (fun hHeld => ?_)
 clear hK K
 refine norm_ (a' := ?_) ?_ ?_
 rotate_left
 {
 show Act.put _ (some 44) _ = _
 simp only [Act.put, List.setIfInBounds_toArray, List.set_cons_zero, List.set_cons_succ, i64_w, i32_w]
 rfl
 }
 refine one_ (i := 4) (N := some 45) #[true, true, true, true, true, true, true, false, false, false] rfl rfl (one_of HT_.out (by kernel_rfl)) (by decide) (fun K hK => ?_)
 refine goes_ Try.func119 (by kernel_rfl) rfl #[.slice Ao54 t266.length co54, .slice Ao55 t269.length co55] (by rfl) rfl rfl wT ?_
 with_reducible refine (spec_l01Join.calls kj3 _ _ t266 _ _ t269 t272 _ ?side1 ?side2 ?side3 ?side4 A28.out).mono ?_
 (case side1 => exact Ch HO268)
 (case side2 => exact (Kd.R_reads' HO268.out).2.1)
 (case side3 => exact Ch HO271)
 (case side4 => exact (Kd.R_reads' HO271.out).2.1)
 rintro e w56 ⟨v273, rfl, ho0, hb⟩
 refine ⟨_, rfl, ?_⟩
 have n0_ := Aside0.mk (Kd.R_elder' (Rh HO259) (Kd.R_base ho0) hb)
 have n1_ := Aside0.mk (Kd.R_elder' (Rh HO262) (Kd.R_base ho0) hb)
 have n2_ := Aside0.mk (Kd.R_elder' (Rh HO265) (Kd.R_base ho0) hb)
 have n3_ := Aside0.mk (Kd.R_elder' (Rh HO268) (Kd.R_base ho0) hb)
 have n4_ := Aside0.mk (Kd.R_elder' (Rh HO271) (Kd.R_base ho0) hb)
 have n5_ := Aside0.mk (Kd.R_lower (Kd.R_new' (Kd.R_new' (Kd.R_new' (Kd.R_new' (Kd.R_new' ho0 (Kd.R_lt (Rh HO259))) (Kd.R_lt (Rh HO262))) (Kd.R_lt (Rh HO265))) (Kd.R_lt (Rh HO268))) (Kd.R_lt (Rh HO271))) (below_size wB))
 have n6_ := Aside0.mk (blk_below (Bh BK253) hb)
 have n7_ := Aside0.mk (below_step wB hb)
 clear HO259
 clear HO262
 clear HO265
 clear HO268
 clear HO271
 clear BK253
 clear HB
 have HO259 := n0_
 have HO262 := n1_
 have HO265 := n2_
 have HO268 := n3_
 have HO271 := n4_
 have HO274 := n5_
 have BK253 := n6_
 have HB := n7_
 clear n0_ n1_ n2_ n3_ n4_ n5_ n6_ n7_
 (try clear hb)
 (try clear hb2)
 (try clear hk)
 (try clear hi)
 (try clear ho0)
 refine hK.out _ _ ⟨(blk_cell BK253.out 0).trans rfl, (blk_cell BK253.out 1).trans rfl, (blk_cell BK253.out 2).trans rfl, (blk_cell BK253.out 3).trans rfl, (blk_cell BK253.out 4).trans rfl, (blk_cell BK253.out 5).trans rfl, (blk_cell BK253.out 6).trans rfl, (blk_cell BK253.out 7).trans rfl, (blk_cell BK253.out 8).trans rfl, (blk_cell BK253.out 9).trans rfl, (blk_cell BK253.out 10).trans rfl, (blk_cell BK253.out 11).trans rfl⟩ (fun hHeld => ?_)
 clear hK K
 refine norm_ (a' := ?_) ?_ ?_
 rotate_left
 {
 show Act.put _ (some 45) _ = _
 simp only [Act.put, List.setIfInBounds_toArray, List.set_cons_zero, List.set_cons_succ, i64_w, i32_w]
 rfl
 }
 refine one_ (i := 7) (N := some 48) #[true, true, true, true, true, true, true, true, false, false] rfl rfl (one_of HT_.out (by kernel_rfl)) (by decide) (fun K hK => ?_)
 refine goes_ Try.func124 (by kernel_rfl) rfl #[.int .i64 a0_3, .int .i64 4] (by rfl) rfl rfl wT ?_
 with_reducible refine (spec_l03Put.calls kj3 a0_3 4 t275 _ A29.out).mono ?_
 rintro e w57 ⟨v276, rfl, ho0, hb⟩
 refine ⟨_, rfl, ?_⟩
 have n0_ := Aside0.mk (Kd.R_elder' (Rh HO259) (Kd.R_base ho0) hb)
 have n1_ := Aside0.mk (Kd.R_elder' (Rh HO262) (Kd.R_base ho0) hb)
 have n2_ := Aside0.mk (Kd.R_elder' (Rh HO265) (Kd.R_base ho0) hb)
 have n3_ := Aside0.mk (Kd.R_elder' (Rh HO268) (Kd.R_base ho0) hb)
 have n4_ := Aside0.mk (Kd.R_elder' (Rh HO271) (Kd.R_base ho0) hb)
 have n5_ := Aside0.mk (Kd.R_elder' (Rh HO274) (Kd.R_base ho0) hb)
 have n6_ := Aside0.mk (Kd.R_lower (Kd.R_new' (Kd.R_new' (Kd.R_new' (Kd.R_new' (Kd.R_new' (Kd.R_new' ho0 (Kd.R_lt (Rh HO259))) (Kd.R_lt (Rh HO262))) (Kd.R_lt (Rh HO265))) (Kd.R_lt (Rh HO268))) (Kd.R_lt (Rh HO271))) (Kd.R_lt (Rh HO274))) (below_size wB))
 have n7_ := Aside0.mk (blk_below (Bh BK253) hb)
 have n8_ := Aside0.mk (below_step wB hb)
 clear HO259
 clear HO262
 clear HO265
 clear HO268
 clear HO271
 clear HO274
 clear BK253
 clear HB
 have HO259 := n0_
 have HO262 := n1_
 have HO265 := n2_
 have HO268 := n3_
 have HO271 := n4_
 have HO274 := n5_
 have HO277 := n6_
 have BK253 := n7_
 have HB := n8_
 clear n0_ n1_ n2_ n3_ n4_ n5_ n6_ n7_ n8_
 (try clear hb)
 (try clear hb2)
 (try clear hk)
 (try clear hi)
 (try clear ho0)
 obtain ⟨Ao58, co58, eo58⟩ := Kd.R_slice HO274.out
 (first | subst eo58 | (injection eo58 with f1_ f2_ f3_; have f4_ := f1_.symm; have f5_ := f3_.symm; clear f1_ f2_ f3_; subst f4_; subst f5_))
 obtain ⟨Ao59, co59, eo59⟩ := Kd.R_slice HO277.out
 (first | subst eo59 | (injection eo59 with f1_ f2_ f3_; have f4_ := f1_.symm; have f5_ := f3_.symm; clear f1_ f2_ f3_; subst f4_; subst f5_))
 refine hK.out _ _ ⟨(blk_cell BK253.out 0).trans rfl, (blk_cell BK253.out 1).trans rfl, (blk_cell BK253.out 2).trans rfl, (blk_cell BK253.out 3).trans rfl, (blk_cell BK253.out 4).trans rfl, (blk_cell BK253.out 5).trans rfl, (blk_cell BK253.out 6).trans rfl, (blk_cell BK253.out 7).trans rfl, (blk_cell BK253.out 8).trans rfl, (blk_cell BK253.out 9).trans rfl, (blk_cell BK253.out 10).trans rfl, (blk_cell BK253.out 11).trans rfl⟩ (fun hHeld => ?_)
 clear hK K
 refine norm_ (a' := ?_) ?_ ?_
 rotate_left
 {
 show Act.put _ (some 48) _ = _
 simp only [Act.put, List.setIfInBounds_toArray, List.set_cons_zero, List.set_cons_succ, i64_w, i32_w]
 rfl
 }
 refine one_ (i := 8) (N := some 49) #[true, true, true, true, true, true, true, true, true, false] rfl rfl (one_of HT_.out (by kernel_rfl)) (by decide) (fun K hK => ?_)
 refine goes_ Try.func119 (by kernel_rfl) rfl #[.slice Ao58 t272.length co58, .slice Ao59 t275.length co59] (by rfl) rfl rfl wT ?_
 with_reducible refine (spec_l01Join.calls kj3 _ _ t272 _ _ t275 t278 _ ?side1 ?side2 ?side3 ?side4 A30.out).mono ?_
 (case side1 => exact Ch HO274)
 (case side2 => exact (Kd.R_reads' HO274.out).2.1)
 (case side3 => exact Ch HO277)
 (case side4 => exact (Kd.R_reads' HO277.out).2.1)
 rintro e w60 ⟨v279, rfl, ho0, hb⟩
 refine ⟨_, rfl, ?_⟩
 have n0_ := Aside0.mk (Kd.R_elder' (Rh HO259) (Kd.R_base ho0) hb)
 have n1_ := Aside0.mk (Kd.R_elder' (Rh HO262) (Kd.R_base ho0) hb)
 have n2_ := Aside0.mk (Kd.R_elder' (Rh HO265) (Kd.R_base ho0) hb)
 have n3_ := Aside0.mk (Kd.R_elder' (Rh HO268) (Kd.R_base ho0) hb)
 have n4_ := Aside0.mk (Kd.R_elder' (Rh HO271) (Kd.R_base ho0) hb)
 have n5_ := Aside0.mk (Kd.R_elder' (Rh HO274) (Kd.R_base ho0) hb)
 have n6_ := Aside0.mk (Kd.R_elder' (Rh HO277) (Kd.R_base ho0) hb)
 have n7_ := Aside0.mk (Kd.R_lower (Kd.R_new' (Kd.R_new' (Kd.R_new' (Kd.R_new' (Kd.R_new' (Kd.R_new' (Kd.R_new' ho0 (Kd.R_lt (Rh HO259))) (Kd.R_lt (Rh HO262))) (Kd.R_lt (Rh HO265))) (Kd.R_lt (Rh HO268))) (Kd.R_lt (Rh HO271))) (Kd.R_lt (Rh HO274))) (Kd.R_lt (Rh HO277))) (below_size wB))
 have n8_ := Aside0.mk (blk_below (Bh BK253) hb)
 have n9_ := Aside0.mk (below_step wB hb)
 clear HO259
 clear HO262
 clear HO265
 clear HO268
 clear HO271
 clear HO274
 clear HO277
 clear BK253
 clear HB
 have HO259 := n0_
 have HO262 := n1_
 have HO265 := n2_
 have HO268 := n3_
 have HO271 := n4_
 have HO274 := n5_
 have HO277 := n6_
 have HO280 := n7_
 have BK253 := n8_
 have HB := n9_
 clear n0_ n1_ n2_ n3_ n4_ n5_ n6_ n7_ n8_ n9_
 (try clear hb)
 (try clear hb2)
 (try clear hk)
 (try clear hi)
 (try clear ho0)
 refine hK.out _ _ ⟨(blk_cell BK253.out 0).trans rfl, (blk_cell BK253.out 1).trans rfl, (blk_cell BK253.out 2).trans rfl, (blk_cell BK253.out 3).trans rfl, (blk_cell BK253.out 4).trans rfl, (blk_cell BK253.out 5).trans rfl, (blk_cell BK253.out 6).trans rfl, (blk_cell BK253.out 7).trans rfl, (blk_cell BK253.out 8).trans rfl, (blk_cell BK253.out 9).trans rfl, (blk_cell BK253.out 10).trans rfl, (blk_cell BK253.out 11).trans rfl⟩ (fun hHeld => ?_)
 clear hK K
 refine norm_ (a' := ?_) ?_ ?_
 rotate_left
 {
 show Act.put _ (some 49) _ = _
 simp only [Act.put, List.setIfInBounds_toArray, List.set_cons_zero, List.set_cons_succ, i64_w, i32_w]
 rfl
 }
 refine pure_ (i := 9) (N := some 9) (v := ?_) (a' := ?_) #[true, true, true, true, true, true, true, true, true, true] rfl rfl (any_of HT_.out (by kernel_rfl)) (fun _ _ _ h => h) (Or.inl ⟨by rfl, ?_⟩) ?_ ?_
 rotate_left
 {
 intro w'
 go_simp
 with_reducible rfl
 }
 rotate_left
 {
 simp only [Act.put, List.setIfInBounds_toArray, List.set_cons_zero, List.set_cons_succ, i64_w, i32_w]
 rfl
 }
 refine done_ (done_of HT_.out (by kernel_rfl)) ?_
 obtain ⟨⟨hcz61_0, hcz61_1, hcz61_2, hcz61_3, hcz61_4, hcz61_5, hcz61_6, hcz61_7, hcz61_8, hcz61_9, hcz61_10, hcz61_11⟩, hfz61_0, hfz61_1, hfz61_2, hfz61_3, hfz61_4, hfz61_5, hfz61_6, hfz61_7, hfz61_8, hfz61_9, hfz61_10, hfz61_11⟩ := cells12 BK253.out
 try go_wp2_with (first | ((with_reducible refine gate_dst (N := 60) rfl ?_); refine Kd.R_lit (Kd.int .u8) _ 5 ?hg (N := 60) ?hd (xs := ([(wrap64 ((wrap64 (Int.tdiv (wrap64 (20 + (t257.length : Int))) 4)) * 16)) % 256, (a0_4) % 256] : List Int)) (inner := [.int .u8 ((wrap64 ((wrap64 (Int.tdiv (wrap64 (20 + (t257.length : Int))) 4)) * 16)) % 256), .int .u8 ((a0_4) % 256)]) (ok := fun _ => True) (okp := fun _ => True) ?hr ?hp (fun _ hk => hk) trivial (Below.refl _ _) (Nat.le_refl _) (by simp) ?_; (case hd => rfl); (case hg => rfl); (case hr => first | (go_simp; done) | (go_simp; rfl)); (case hp => exact (Reps.one (show Kd.M (Kd.int .u8) _ _ _ ((wrap64 ((wrap64 (Int.tdiv (wrap64 (20 + (t257.length : Int))) 4)) * 16)) % 256) [.int .u8 ((wrap64 ((wrap64 (Int.tdiv (wrap64 (20 + (t257.length : Int))) 4)) * 16)) % 256)] from rfl) (Reps.one (show Kd.M (Kd.int .u8) _ _ _ ((a0_4) % 256) [.int .u8 ((a0_4) % 256)] from rfl) (Reps.none _ _)))); intro v282 w62 ho63 hb hg_ hnew_; clear hg_ hnew_; (first | rw [← Ny281.out] at ho63 | (simp only [Int.reduceToNat] at ho63; rw [← Ny281.out] at ho63)); have n0_ := Aside0.mk (Kd.R_elder' (Rh HO259) (Kd.R_base ho63) hb); have n1_ := Aside0.mk (Kd.R_elder' (Rh HO262) (Kd.R_base ho63) hb); have n2_ := Aside0.mk (Kd.R_elder' (Rh HO265) (Kd.R_base ho63) hb); have n3_ := Aside0.mk (Kd.R_elder' (Rh HO268) (Kd.R_base ho63) hb); have n4_ := Aside0.mk (Kd.R_elder' (Rh HO271) (Kd.R_base ho63) hb); have n5_ := Aside0.mk (Kd.R_elder' (Rh HO274) (Kd.R_base ho63) hb); have n6_ := Aside0.mk (Kd.R_elder' (Rh HO277) (Kd.R_base ho63) hb); have n7_ := Aside0.mk (Kd.R_elder' (Rh HO280) (Kd.R_base ho63) hb); have n8_ := Aside0.mk (Kd.R_lower (Kd.R_new' (Kd.R_new' (Kd.R_new' (Kd.R_new' (Kd.R_new' (Kd.R_new' (Kd.R_new' (Kd.R_new' ho63 (Kd.R_lt (Rh HO259))) (Kd.R_lt (Rh HO262))) (Kd.R_lt (Rh HO265))) (Kd.R_lt (Rh HO268))) (Kd.R_lt (Rh HO271))) (Kd.R_lt (Rh HO274))) (Kd.R_lt (Rh HO277))) (Kd.R_lt (Rh HO280))) (below_size wB)); have n9_ := Aside0.mk (blk_below (Bh BK253) hb); have n10_ := Aside0.mk (below_step wB hb); clear HO259; clear HO262; clear HO265; clear HO268; clear HO271; clear HO274; clear HO277; clear HO280; clear BK253; clear HB; have HO259 := n0_; have HO262 := n1_; have HO265 := n2_; have HO268 := n3_; have HO271 := n4_; have HO274 := n5_; have HO277 := n6_; have HO280 := n7_; have HO283 := n8_; have BK253 := n9_; have HB := n10_; clear n0_ n1_ n2_ n3_ n4_ n5_ n6_ n7_ n8_ n9_ n10_; clear hb ho63; obtain ⟨Ao64, co64, eo64⟩ := Kd.R_slice HO280.out; subst eo64; obtain ⟨Ao65, co65, eo65⟩ := Kd.R_slice HO283.out; subst eo65) | ((with_reducible refine gate_callee (f := 119) rfl ?_); refine goesL_ (some 61) rfl rfl Try.func119 (by kernel_rfl) rfl #[.slice Ao64 t278.length co64, .slice Ao65 y281.length co65] rfl wT ?_; (with_reducible refine (spec_l01Join.calls kj3 _ _ t278 _ _ y281 t284 _ ?side1 ?side2 ?side3 ?side4 A31.out).mono ?_); (case side1 => exact Ch HO280); (case side2 => exact (Kd.R_reads' HO280.out).2.1); (case side3 => exact Ch HO283); (case side4 => exact (Kd.R_reads' HO283.out).2.1); rintro e w66 ⟨v285, rfl, ho0, hb⟩; refine ⟨_, rfl, ?_⟩; have n0_ := Aside0.mk (Kd.R_elder' (Rh HO259) (Kd.R_base ho0) hb); have n1_ := Aside0.mk (Kd.R_elder' (Rh HO262) (Kd.R_base ho0) hb); have n2_ := Aside0.mk (Kd.R_elder' (Rh HO265) (Kd.R_base ho0) hb); have n3_ := Aside0.mk (Kd.R_elder' (Rh HO268) (Kd.R_base ho0) hb); have n4_ := Aside0.mk (Kd.R_elder' (Rh HO271) (Kd.R_base ho0) hb); have n5_ := Aside0.mk (Kd.R_elder' (Rh HO274) (Kd.R_base ho0) hb); have n6_ := Aside0.mk (Kd.R_elder' (Rh HO277) (Kd.R_base ho0) hb); have n7_ := Aside0.mk (Kd.R_elder' (Rh HO280) (Kd.R_base ho0) hb); have n8_ := Aside0.mk (Kd.R_elder' (Rh HO283) (Kd.R_base ho0) hb); have n9_ := Aside0.mk (Kd.R_lower (Kd.R_new' (Kd.R_new' (Kd.R_new' (Kd.R_new' (Kd.R_new' (Kd.R_new' (Kd.R_new' (Kd.R_new' (Kd.R_new' ho0 (Kd.R_lt (Rh HO259))) (Kd.R_lt (Rh HO262))) (Kd.R_lt (Rh HO265))) (Kd.R_lt (Rh HO268))) (Kd.R_lt (Rh HO271))) (Kd.R_lt (Rh HO274))) (Kd.R_lt (Rh HO277))) (Kd.R_lt (Rh HO280))) (Kd.R_lt (Rh HO283))) (below_size wB)); have n10_ := Aside0.mk (blk_below (Bh BK253) hb); have n11_ := Aside0.mk (below_step wB hb); clear HO259; clear HO262; clear HO265; clear HO268; clear HO271; clear HO274; clear HO277; clear HO280; clear HO283; clear BK253; clear HB; have HO259 := n0_; have HO262 := n1_; have HO265 := n2_; have HO268 := n3_; have HO271 := n4_; have HO274 := n5_; have HO277 := n6_; have HO280 := n7_; have HO283 := n8_; have HO286 := n9_; have BK253 := n10_; have HB := n11_; clear n0_ n1_ n2_ n3_ n4_ n5_ n6_ n7_ n8_ n9_ n10_ n11_; (try clear hb); (try clear hb2); (try clear hk); (try clear hi); (try clear ho0); obtain ⟨⟨hcz67_0, hcz67_1, hcz67_2, hcz67_3, hcz67_4, hcz67_5, hcz67_6, hcz67_7, hcz67_8, hcz67_9, hcz67_10, hcz67_11⟩, hfz67_0, hfz67_1, hfz67_2, hfz67_3, hfz67_4, hfz67_5, hfz67_6, hfz67_7, hfz67_8, hfz67_9, hfz67_10, hfz67_11⟩ := cells12 BK253.out) | ((with_reducible refine gate_callee (f := 124) rfl ?_); refine goesL_ (some 65) rfl rfl Try.func124 (by kernel_rfl) rfl #[.int .i64 a0_5, .int .i64 2] rfl wT ?_; (with_reducible refine (spec_l03Put.calls kj3 a0_5 2 t287 _ A32.out).mono ?_); rintro e w68 ⟨v288, rfl, ho0, hb⟩; refine ⟨_, rfl, ?_⟩; have n0_ := Aside0.mk (Kd.R_elder' (Rh HO259) (Kd.R_base ho0) hb); have n1_ := Aside0.mk (Kd.R_elder' (Rh HO262) (Kd.R_base ho0) hb); have n2_ := Aside0.mk (Kd.R_elder' (Rh HO265) (Kd.R_base ho0) hb); have n3_ := Aside0.mk (Kd.R_elder' (Rh HO268) (Kd.R_base ho0) hb); have n4_ := Aside0.mk (Kd.R_elder' (Rh HO271) (Kd.R_base ho0) hb); have n5_ := Aside0.mk (Kd.R_elder' (Rh HO274) (Kd.R_base ho0) hb); have n6_ := Aside0.mk (Kd.R_elder' (Rh HO277) (Kd.R_base ho0) hb); have n7_ := Aside0.mk (Kd.R_elder' (Rh HO280) (Kd.R_base ho0) hb); have n8_ := Aside0.mk (Kd.R_elder' (Rh HO283) (Kd.R_base ho0) hb); have n9_ := Aside0.mk (Kd.R_elder' (Rh HO286) (Kd.R_base ho0) hb); have n10_ := Aside0.mk (Kd.R_lower (Kd.R_new' (Kd.R_new' (Kd.R_new' (Kd.R_new' (Kd.R_new' (Kd.R_new' (Kd.R_new' (Kd.R_new' (Kd.R_new' (Kd.R_new' ho0 (Kd.R_lt (Rh HO259))) (Kd.R_lt (Rh HO262))) (Kd.R_lt (Rh HO265))) (Kd.R_lt (Rh HO268))) (Kd.R_lt (Rh HO271))) (Kd.R_lt (Rh HO274))) (Kd.R_lt (Rh HO277))) (Kd.R_lt (Rh HO280))) (Kd.R_lt (Rh HO283))) (Kd.R_lt (Rh HO286))) (below_size wB)); have n11_ := Aside0.mk (blk_below (Bh BK253) hb); have n12_ := Aside0.mk (below_step wB hb); clear HO259; clear HO262; clear HO265; clear HO268; clear HO271; clear HO274; clear HO277; clear HO280; clear HO283; clear HO286; clear BK253; clear HB; have HO259 := n0_; have HO262 := n1_; have HO265 := n2_; have HO268 := n3_; have HO271 := n4_; have HO274 := n5_; have HO277 := n6_; have HO280 := n7_; have HO283 := n8_; have HO286 := n9_; have HO289 := n10_; have BK253 := n11_; have HB := n12_; clear n0_ n1_ n2_ n3_ n4_ n5_ n6_ n7_ n8_ n9_ n10_ n11_ n12_; (try clear hb); (try clear hb2); (try clear hk); (try clear hi); (try clear ho0); obtain ⟨Ao69, co69, eo69⟩ := Kd.R_slice HO286.out; subst eo69; obtain ⟨Ao70, co70, eo70⟩ := Kd.R_slice HO289.out; subst eo70) | ((with_reducible refine gate_callee (f := 119) rfl ?_); refine goesL_ (some 66) rfl rfl Try.func119 (by kernel_rfl) rfl #[.slice Ao69 t284.length co69, .slice Ao70 t287.length co70] rfl wT ?_; (with_reducible refine (spec_l01Join.calls kj3 _ _ t284 _ _ t287 t290 _ ?side1 ?side2 ?side3 ?side4 A33.out).mono ?_); (case side1 => exact Ch HO286); (case side2 => exact (Kd.R_reads' HO286.out).2.1); (case side3 => exact Ch HO289); (case side4 => exact (Kd.R_reads' HO289.out).2.1); rintro e w71 ⟨v291, rfl, ho0, hb⟩; refine ⟨_, rfl, ?_⟩; have n0_ := Aside0.mk (Kd.R_elder' (Rh HO259) (Kd.R_base ho0) hb); have n1_ := Aside0.mk (Kd.R_elder' (Rh HO262) (Kd.R_base ho0) hb); have n2_ := Aside0.mk (Kd.R_elder' (Rh HO265) (Kd.R_base ho0) hb); have n3_ := Aside0.mk (Kd.R_elder' (Rh HO268) (Kd.R_base ho0) hb); have n4_ := Aside0.mk (Kd.R_elder' (Rh HO271) (Kd.R_base ho0) hb); have n5_ := Aside0.mk (Kd.R_elder' (Rh HO274) (Kd.R_base ho0) hb); have n6_ := Aside0.mk (Kd.R_elder' (Rh HO277) (Kd.R_base ho0) hb); have n7_ := Aside0.mk (Kd.R_elder' (Rh HO280) (Kd.R_base ho0) hb); have n8_ := Aside0.mk (Kd.R_elder' (Rh HO283) (Kd.R_base ho0) hb); have n9_ := Aside0.mk (Kd.R_elder' (Rh HO286) (Kd.R_base ho0) hb); have n10_ := Aside0.mk (Kd.R_elder' (Rh HO289) (Kd.R_base ho0) hb); have n11_ := Aside0.mk (Kd.R_lower (Kd.R_new' (Kd.R_new' (Kd.R_new' (Kd.R_new' (Kd.R_new' (Kd.R_new' (Kd.R_new' (Kd.R_new' (Kd.R_new' (Kd.R_new' (Kd.R_new' ho0 (Kd.R_lt (Rh HO259))) (Kd.R_lt (Rh HO262))) (Kd.R_lt (Rh HO265))) (Kd.R_lt (Rh HO268))) (Kd.R_lt (Rh HO271))) (Kd.R_lt (Rh HO274))) (Kd.R_lt (Rh HO277))) (Kd.R_lt (Rh HO280))) (Kd.R_lt (Rh HO283))) (Kd.R_lt (Rh HO286))) (Kd.R_lt (Rh HO289))) (below_size wB)); have n12_ := Aside0.mk (blk_below (Bh BK253) hb); have n13_ := Aside0.mk (below_step wB hb); clear HO259; clear HO262; clear HO265; clear HO268; clear HO271; clear HO274; clear HO277; clear HO280; clear HO283; clear HO286; clear HO289; clear BK253; clear HB; have HO259 := n0_; have HO262 := n1_; have HO265 := n2_; have HO268 := n3_; have HO271 := n4_; have HO274 := n5_; have HO277 := n6_; have HO280 := n7_; have HO283 := n8_; have HO286 := n9_; have HO289 := n10_; have HO292 := n11_; have BK253 := n12_; have HB := n13_; clear n0_ n1_ n2_ n3_ n4_ n5_ n6_ n7_ n8_ n9_ n10_ n11_ n12_ n13_; (try clear hb); (try clear hb2); (try clear hk); (try clear hi); (try clear ho0)))
 have n0_ := Aside0.mk (Kd.R_drew HO259.out)
 have n1_ := Aside0.mk (Kd.R_drew HO262.out)
 have n2_ := Aside0.mk (Kd.R_drew HO265.out)
 have n3_ := Aside0.mk (Kd.R_drew HO268.out)
 have n4_ := Aside0.mk (Kd.R_drew HO271.out)
 have n5_ := Aside0.mk (Kd.R_drew HO274.out)
 have n6_ := Aside0.mk (Kd.R_drew HO277.out)
 have n7_ := Aside0.mk (Kd.R_drew HO280.out)
 have n8_ := Aside0.mk (Kd.R_drew HO283.out)
 have n9_ := Aside0.mk (Kd.R_drew HO286.out)
 have n10_ := Aside0.mk (Kd.R_drew HO289.out)
 have n11_ := Aside0.mk (Kd.R_drew HO292.out)
 have n12_ := Aside0.mk (blk_drew BK253.out)
 have n13_ := Aside0.mk (below_drew1 HB.out)
 clear HO259
 clear HO262
 clear HO265
 clear HO268
 clear HO271
 clear HO274
 clear HO277
 clear HO280
 clear HO283
 clear HO286
 clear HO289
 clear HO292
 clear BK253
 clear HB
 have HO259 := n0_
 have HO262 := n1_
 have HO265 := n2_
 have HO268 := n3_
 have HO271 := n4_
 have HO274 := n5_
 have HO277 := n6_
 have HO280 := n7_
 have HO283 := n8_
 have HO286 := n9_
 have HO289 := n10_
 have HO292 := n11_
 have BK253 := n12_
 have HB := n13_
 clear n0_ n1_ n2_ n3_ n4_ n5_ n6_ n7_ n8_ n9_ n10_ n11_ n12_ n13_
 refine start_ (n := 9) (S := fun w' => w'.cell? ⟨gb253, 0, none⟩ = some (.int .i64 a0_0) ∧ w'.cell? ⟨gb253, 1, none⟩ = some (.int .i64 a0_1) ∧ w'.cell? ⟨gb253, 2, none⟩ = some (.int .i64 a0_2) ∧ w'.cell? ⟨gb253, 3, none⟩ = some (.int .i64 a0_3) ∧ w'.cell? ⟨gb253, 4, none⟩ = some (.int .i64 a0_4) ∧ w'.cell? ⟨gb253, 5, none⟩ = some (.int .i64 a0_5) ∧ w'.cell? ⟨gb253, 6, none⟩ = some (.int .i64 a0_6) ∧ w'.cell? ⟨gb253, 7, none⟩ = some (.bool a0_7) ∧ w'.cell? ⟨gb253, 8, none⟩ = some (.int .i64 a0_8) ∧ w'.cell? ⟨gb253, 9, none⟩ = some (.bool a0_9) ∧ w'.cell? ⟨gb253, 10, none⟩ = some (.slice A0_10 l0_10.length c0_10) ∧ w'.cell? ⟨gb253, 11, none⟩ = some (.slice A0_11 l0_11.length c0_11)) (ds := []) #[false, false, false, false, false, false, false, false, false] (by kernel_rfl) rfl rfl ⟨(blk_cell BK253.out 0).trans rfl, (blk_cell BK253.out 1).trans rfl, (blk_cell BK253.out 2).trans rfl, (blk_cell BK253.out 3).trans rfl, (blk_cell BK253.out 4).trans rfl, (blk_cell BK253.out 5).trans rfl, (blk_cell BK253.out 6).trans rfl, (blk_cell BK253.out 7).trans rfl, (blk_cell BK253.out 8).trans rfl, (blk_cell BK253.out 9).trans rfl, (blk_cell BK253.out 10).trans rfl, (blk_cell BK253.out 11).trans rfl⟩ (fun hHeld => ?_); refine with_tabW spec_EncodeSegment.tab10 spec_EncodeSegment.bits10 (fun HT_ HW_ => ?_)
 generalize w71.drew = w72 at HO259 HO262 HO265 HO268 HO271 HO274 HO277 HO280 HO283 HO286 HO289 HO292 BK253 HB hHeld ⊢
 refine pure_ (i := 0) (N := some 67) (v := ?_) (a' := ?_) #[true, false, false, false, false, false, false, false, false] rfl rfl (any_of HT_.out (by kernel_rfl)) (fun _ _ _ h => h) (Or.inl ⟨by rfl, ?_⟩) ?_ ?_
 rotate_left
 {
 intro w'
 go_simp
 with_reducible rfl
 }
 rotate_left
 {
 simp only [Act.put, List.setIfInBounds_toArray, List.set_cons_zero, List.set_cons_succ, i64_w, i32_w]
 rfl
 }
 refine pure_ (i := 3) (N := some 70) (v := ?_) (a' := ?_) #[true, false, false, true, false, false, false, false, false] rfl rfl (any_of HT_.out (by kernel_rfl)) (fun _ _ _ h => h) (Or.inl ⟨by rfl, ?_⟩) ?_ ?_
 rotate_left
 {
 intro w'
 go_simp
 with_reducible rfl
 }
 rotate_left
 {
 simp only [Act.put, List.setIfInBounds_toArray, List.set_cons_zero, List.set_cons_succ, i64_w, i32_w]
 rfl
 }
 refine pure_ (i := 4) (N := some 71) (v := ?_) (a' := ?_) #[true, false, false, true, true, false, false, false, false] rfl rfl (any_of HT_.out (by kernel_rfl)) (fun _ _ _ h => h) (Or.inl ⟨by rfl, ?_⟩) ?_ ?_
 rotate_left
 {
 intro w'
 go_simp
 with_reducible rfl
 }
 rotate_left
 {
 simp only [Act.put, List.setIfInBounds_toArray, List.set_cons_zero, List.set_cons_succ, i64_w, i32_w]
 rfl
 }
 refine take_ (i := 5) (N := some 72) (v := ?_) (a' := ?_) #[true, false, false, true, true, true, false, false, false] rfl rfl (take_ofW HT_.out HW_.out (by kernel_rfl)) (fun _ _ _ h => h) (Or.inl ⟨by rfl, ?_⟩) hHeld ?_ ?_
 rotate_left
 {
 rintro w' ⟨s0, s1, s2, s3, s4, s5, s6, s7, s8, s9, s10, s11⟩
 go_simp
 with_reducible rfl
 }
 rotate_left
 {
 simp only [Act.put, List.setIfInBounds_toArray, List.set_cons_zero, List.set_cons_succ, i64_w, i32_w]
 rfl
 }
 refine one_ (i := 1) (N := some 68) #[true, true, false, true, true, true, false, false, false] rfl rfl (one_of HT_.out (by kernel_rfl)) (by decide) (fun K hK => ?_)
 refine Kd.R_lit_step (Kd.int .u8) _ 5 ?hg (N := 68) ?hd (xs := ([0, 0, 0, 0] : List Int)) (inner := [.int .u8 0, .int .u8 0, .int .u8 0, .int .u8 0]) (ok := fun _ => True) (okp := fun _ => True) ?hr ?hp (fun _ hk => hk) trivial (Below.refl _ _) (Nat.le_refl _) (by simp) ?_; (case hd => rfl); (case hg => rfl); (case hr => first | (go_simp; done) | (go_simp; rfl)); (case hp => exact (Reps.one (show Kd.M (Kd.int .u8) _ _ _ 0 [.int .u8 0] from rfl) (Reps.one (show Kd.M (Kd.int .u8) _ _ _ 0 [.int .u8 0] from rfl) (Reps.one (show Kd.M (Kd.int .u8) _ _ _ 0 [.int .u8 0] from rfl) (Reps.one (show Kd.M (Kd.int .u8) _ _ _ 0 [.int .u8 0] from rfl) (Reps.none _ _))))))
 intro v294 w73 ho74 hb hg_ hnew_
 clear hg_ hnew_
 (first | rw [← Ny293.out] at ho74 | (simp only [Int.reduceToNat] at ho74; rw [← Ny293.out] at ho74))
 have n0_ := Aside0.mk (Kd.R_elder' (Rh HO259) (Kd.R_base ho74) hb)
 have n1_ := Aside0.mk (Kd.R_elder' (Rh HO262) (Kd.R_base ho74) hb)
 have n2_ := Aside0.mk (Kd.R_elder' (Rh HO265) (Kd.R_base ho74) hb)
 have n3_ := Aside0.mk (Kd.R_elder' (Rh HO268) (Kd.R_base ho74) hb)
 have n4_ := Aside0.mk (Kd.R_elder' (Rh HO271) (Kd.R_base ho74) hb)
 have n5_ := Aside0.mk (Kd.R_elder' (Rh HO274) (Kd.R_base ho74) hb)
 have n6_ := Aside0.mk (Kd.R_elder' (Rh HO277) (Kd.R_base ho74) hb)
 have n7_ := Aside0.mk (Kd.R_elder' (Rh HO280) (Kd.R_base ho74) hb)
 have n8_ := Aside0.mk (Kd.R_elder' (Rh HO283) (Kd.R_base ho74) hb)
 have n9_ := Aside0.mk (Kd.R_elder' (Rh HO286) (Kd.R_base ho74) hb)
 have n10_ := Aside0.mk (Kd.R_elder' (Rh HO289) (Kd.R_base ho74) hb)
 have n11_ := Aside0.mk (Kd.R_elder' (Rh HO292) (Kd.R_base ho74) hb)
 have n12_ := Aside0.mk (Kd.R_lower (Kd.R_new' (Kd.R_new' (Kd.R_new' (Kd.R_new' (Kd.R_new' (Kd.R_new' (Kd.R_new' (Kd.R_new' (Kd.R_new' (Kd.R_new' (Kd.R_new' (Kd.R_new' ho74 (Kd.R_lt (Rh HO259))) (Kd.R_lt (Rh HO262))) (Kd.R_lt (Rh HO265))) (Kd.R_lt (Rh HO268))) (Kd.R_lt (Rh HO271))) (Kd.R_lt (Rh HO274))) (Kd.R_lt (Rh HO277))) (Kd.R_lt (Rh HO280))) (Kd.R_lt (Rh HO283))) (Kd.R_lt (Rh HO286))) (Kd.R_lt (Rh HO289))) (Kd.R_lt (Rh HO292))) (below_size wB))
 have n13_ := Aside0.mk (blk_below (Bh BK253) hb)
 have n14_ := Aside0.mk (below_step wB hb)
 clear HO259
 clear HO262
 clear HO265
 clear HO268
 clear HO271
 clear HO274
 clear HO277
 clear HO280
 clear HO283
 clear HO286
 clear HO289
 clear HO292
 clear BK253
 clear HB
 have HO259 := n0_
 have HO262 := n1_
 have HO265 := n2_
 have HO268 := n3_
 have HO271 := n4_
 have HO274 := n5_
 have HO277 := n6_
 have HO280 := n7_
 have HO283 := n8_
 have HO286 := n9_
 have HO289 := n10_
 have HO292 := n11_
 have HO295 := n12_
 have BK253 := n13_
 have HB := n14_
 clear n0_ n1_ n2_ n3_ n4_ n5_ n6_ n7_ n8_ n9_ n10_ n11_ n12_ n13_ n14_
 clear hb ho74
 obtain ⟨Ao75, co75, eo75⟩ := Kd.R_slice HO292.out
 (first | subst eo75 | (injection eo75 with f1_ f2_ f3_; have f4_ := f1_.symm; have f5_ := f3_.symm; clear f1_ f2_ f3_; subst f4_; subst f5_))
 obtain ⟨Ao76, co76, eo76⟩ := Kd.R_slice HO295.out
 (first | subst eo76 | (injection eo76 with f1_ f2_ f3_; have f4_ := f1_.symm; have f5_ := f3_.symm; clear f1_ f2_ f3_; subst f4_; subst f5_))
 refine hK.out _ _ ⟨(blk_cell BK253.out 0).trans rfl, (blk_cell BK253.out 1).trans rfl, (blk_cell BK253.out 2).trans rfl, (blk_cell BK253.out 3).trans rfl, (blk_cell BK253.out 4).trans rfl, (blk_cell BK253.out 5).trans rfl, (blk_cell BK253.out 6).trans rfl, (blk_cell BK253.out 7).trans rfl, (blk_cell BK253.out 8).trans rfl, (blk_cell BK253.out 9).trans rfl, (blk_cell BK253.out 10).trans rfl, (blk_cell BK253.out 11).trans rfl⟩ (fun hHeld => ?_)
 clear hK K
 refine norm_ (a' := ?_) ?_ ?_
 rotate_left
 {
 show Act.put _ (some 68) _ = _
 simp only [Act.put, List.setIfInBounds_toArray, List.set_cons_zero, List.set_cons_succ, i64_w, i32_w]
 rfl
 }
 refine one_ (i := 2) (N := some 69) #[true, true, true, true, true, true, false, false, false] rfl rfl (one_of HT_.out (by kernel_rfl)) (by decide) (fun K hK => ?_)
 refine goes_ Try.func119 (by kernel_rfl) rfl #[.slice Ao75 t290.length co75, .slice Ao76 y293.length co76] (by rfl) rfl rfl wT ?_
 with_reducible refine (spec_l01Join.calls kj3 _ _ t290 _ _ y293 t296 _ ?side1 ?side2 ?side3 ?side4 A34.out).mono ?_
 (case side1 => exact Ch HO292)
 (case side2 => exact (Kd.R_reads' HO292.out).2.1)
 (case side3 => exact Ch HO295)
 (case side4 => exact (Kd.R_reads' HO295.out).2.1)
 rintro e w77 ⟨v297, rfl, ho0, hb⟩
 refine ⟨_, rfl, ?_⟩
 have n0_ := Aside0.mk (Kd.R_elder' (Rh HO259) (Kd.R_base ho0) hb)
 have n1_ := Aside0.mk (Kd.R_elder' (Rh HO262) (Kd.R_base ho0) hb)
 have n2_ := Aside0.mk (Kd.R_elder' (Rh HO265) (Kd.R_base ho0) hb)
 have n3_ := Aside0.mk (Kd.R_elder' (Rh HO268) (Kd.R_base ho0) hb)
 have n4_ := Aside0.mk (Kd.R_elder' (Rh HO271) (Kd.R_base ho0) hb)
 have n5_ := Aside0.mk (Kd.R_elder' (Rh HO274) (Kd.R_base ho0) hb)
 have n6_ := Aside0.mk (Kd.R_elder' (Rh HO277) (Kd.R_base ho0) hb)
 have n7_ := Aside0.mk (Kd.R_elder' (Rh HO280) (Kd.R_base ho0) hb)
 have n8_ := Aside0.mk (Kd.R_elder' (Rh HO283) (Kd.R_base ho0) hb)
 have n9_ := Aside0.mk (Kd.R_elder' (Rh HO286) (Kd.R_base ho0) hb)
 have n10_ := Aside0.mk (Kd.R_elder' (Rh HO289) (Kd.R_base ho0) hb)
 have n11_ := Aside0.mk (Kd.R_elder' (Rh HO292) (Kd.R_base ho0) hb)
 have n12_ := Aside0.mk (Kd.R_elder' (Rh HO295) (Kd.R_base ho0) hb)
 have n13_ := Aside0.mk (Kd.R_lower (Kd.R_new' (Kd.R_new' (Kd.R_new' (Kd.R_new' (Kd.R_new' (Kd.R_new' (Kd.R_new' (Kd.R_new' (Kd.R_new' (Kd.R_new' (Kd.R_new' (Kd.R_new' (Kd.R_new' ho0 (Kd.R_lt (Rh HO259))) (Kd.R_lt (Rh HO262))) (Kd.R_lt (Rh HO265))) (Kd.R_lt (Rh HO268))) (Kd.R_lt (Rh HO271))) (Kd.R_lt (Rh HO274))) (Kd.R_lt (Rh HO277))) (Kd.R_lt (Rh HO280))) (Kd.R_lt (Rh HO283))) (Kd.R_lt (Rh HO286))) (Kd.R_lt (Rh HO289))) (Kd.R_lt (Rh HO292))) (Kd.R_lt (Rh HO295))) (below_size wB))
 have n14_ := Aside0.mk (blk_below (Bh BK253) hb)
 have n15_ := Aside0.mk (below_step wB hb)
 clear HO259
 clear HO262
 clear HO265
 clear HO268
 clear HO271
 clear HO274
 clear HO277
 clear HO280
 clear HO283
 clear HO286
 clear HO289
 clear HO292
 clear HO295
 clear BK253
 clear HB
 have HO259 := n0_
 have HO262 := n1_
 have HO265 := n2_
 have HO268 := n3_
 have HO271 := n4_
 have HO274 := n5_
 have HO277 := n6_
 have HO280 := n7_
 have HO283 := n8_
 have HO286 := n9_
 have HO289 := n10_
 have HO292 := n11_
 have HO295 := n12_
 have HO298 := n13_
 have BK253 := n14_
 have HB := n15_
 clear n0_ n1_ n2_ n3_ n4_ n5_ n6_ n7_ n8_ n9_ n10_ n11_ n12_ n13_ n14_ n15_
 (try clear hb)
 (try clear hb2)
 (try clear hk)
 (try clear hi)
 (try clear ho0)
 refine hK.out _ _ ⟨(blk_cell BK253.out 0).trans rfl, (blk_cell BK253.out 1).trans rfl, (blk_cell BK253.out 2).trans rfl, (blk_cell BK253.out 3).trans rfl, (blk_cell BK253.out 4).trans rfl, (blk_cell BK253.out 5).trans rfl, (blk_cell BK253.out 6).trans rfl, (blk_cell BK253.out 7).trans rfl, (blk_cell BK253.out 8).trans rfl, (blk_cell BK253.out 9).trans rfl, (blk_cell BK253.out 10).trans rfl, (blk_cell BK253.out 11).trans rfl⟩ (fun hHeld => ?_)
 clear hK K
 refine norm_ (a' := ?_) ?_ ?_
 rotate_left
 {
 show Act.put _ (some 69) _ = _
 simp only [Act.put, List.setIfInBounds_toArray, List.set_cons_zero, List.set_cons_succ, i64_w, i32_w]
 rfl
 }
 refine one_ (i := 6) (N := some 73) #[true, true, true, true, true, true, true, false, false] rfl rfl (one_of HT_.out (by kernel_rfl)) (by decide) (fun K hK => ?_)
 refine goes_ Try.func119 (by kernel_rfl) rfl #[.slice Ao44 t257.length co44, .slice A0_11 l0_11.length c0_11] (by rfl) rfl rfl wT ?_
 with_reducible refine (spec_l01Join.calls kj3 _ _ t257 _ _ l0_11 t299 _ ?side1 ?side2 ?side3 ?side4 A35.out).mono ?_
 (case side1 => exact Ch HO259)
 (case side2 => exact (Kd.R_reads' HO259.out).2.1)
 (case side3 => exact Kd.C_below HR0_11.out wB)
 (case side4 => exact HC0_11.out)
 rintro e w78 ⟨v300, rfl, ho0, hb⟩
 refine ⟨_, rfl, ?_⟩
 have n0_ := Aside0.mk (Kd.R_elder' (Rh HO259) (Kd.R_base ho0) hb)
 have n1_ := Aside0.mk (Kd.R_elder' (Rh HO262) (Kd.R_base ho0) hb)
 have n2_ := Aside0.mk (Kd.R_elder' (Rh HO265) (Kd.R_base ho0) hb)
 have n3_ := Aside0.mk (Kd.R_elder' (Rh HO268) (Kd.R_base ho0) hb)
 have n4_ := Aside0.mk (Kd.R_elder' (Rh HO271) (Kd.R_base ho0) hb)
 have n5_ := Aside0.mk (Kd.R_elder' (Rh HO274) (Kd.R_base ho0) hb)
 have n6_ := Aside0.mk (Kd.R_elder' (Rh HO277) (Kd.R_base ho0) hb)
 have n7_ := Aside0.mk (Kd.R_elder' (Rh HO280) (Kd.R_base ho0) hb)
 have n8_ := Aside0.mk (Kd.R_elder' (Rh HO283) (Kd.R_base ho0) hb)
 have n9_ := Aside0.mk (Kd.R_elder' (Rh HO286) (Kd.R_base ho0) hb)
 have n10_ := Aside0.mk (Kd.R_elder' (Rh HO289) (Kd.R_base ho0) hb)
 have n11_ := Aside0.mk (Kd.R_elder' (Rh HO292) (Kd.R_base ho0) hb)
 have n12_ := Aside0.mk (Kd.R_elder' (Rh HO295) (Kd.R_base ho0) hb)
 have n13_ := Aside0.mk (Kd.R_elder' (Rh HO298) (Kd.R_base ho0) hb)
 have n14_ := Aside0.mk (Kd.R_lower (Kd.R_new' (Kd.R_new' (Kd.R_new' (Kd.R_new' (Kd.R_new' (Kd.R_new' (Kd.R_new' (Kd.R_new' (Kd.R_new' (Kd.R_new' (Kd.R_new' (Kd.R_new' (Kd.R_new' (Kd.R_new' ho0 (Kd.R_lt (Rh HO259))) (Kd.R_lt (Rh HO262))) (Kd.R_lt (Rh HO265))) (Kd.R_lt (Rh HO268))) (Kd.R_lt (Rh HO271))) (Kd.R_lt (Rh HO274))) (Kd.R_lt (Rh HO277))) (Kd.R_lt (Rh HO280))) (Kd.R_lt (Rh HO283))) (Kd.R_lt (Rh HO286))) (Kd.R_lt (Rh HO289))) (Kd.R_lt (Rh HO292))) (Kd.R_lt (Rh HO295))) (Kd.R_lt (Rh HO298))) (below_size wB))
 have n15_ := Aside0.mk (blk_below (Bh BK253) hb)
 have n16_ := Aside0.mk (below_step wB hb)
 clear HO259
 clear HO262
 clear HO265
 clear HO268
 clear HO271
 clear HO274
 clear HO277
 clear HO280
 clear HO283
 clear HO286
 clear HO289
 clear HO292
 clear HO295
 clear HO298
 clear BK253
 clear HB
 have HO259 := n0_
 have HO262 := n1_
 have HO265 := n2_
 have HO268 := n3_
 have HO271 := n4_
 have HO274 := n5_
 have HO277 := n6_
 have HO280 := n7_
 have HO283 := n8_
 have HO286 := n9_
 have HO289 := n10_
 have HO292 := n11_
 have HO295 := n12_
 have HO298 := n13_
 have HO301 := n14_
 have BK253 := n15_
 have HB := n16_
 clear n0_ n1_ n2_ n3_ n4_ n5_ n6_ n7_ n8_ n9_ n10_ n11_ n12_ n13_ n14_ n15_ n16_
 (try clear hb)
 (try clear hb2)
 (try clear hk)
 (try clear hi)
 (try clear ho0)
 obtain ⟨Ao79, co79, eo79⟩ := Kd.R_slice HO298.out
 (first | subst eo79 | (injection eo79 with f1_ f2_ f3_; have f4_ := f1_.symm; have f5_ := f3_.symm; clear f1_ f2_ f3_; subst f4_; subst f5_))
 obtain ⟨Ao80, co80, eo80⟩ := Kd.R_slice HO301.out
 (first | subst eo80 | (injection eo80 with f1_ f2_ f3_; have f4_ := f1_.symm; have f5_ := f3_.symm; clear f1_ f2_ f3_; subst f4_; subst f5_))
 refine hK.out _ _ ⟨(blk_cell BK253.out 0).trans rfl, (blk_cell BK253.out 1).trans rfl, (blk_cell BK253.out 2).trans rfl, (blk_cell BK253.out 3).trans rfl, (blk_cell BK253.out 4).trans rfl, (blk_cell BK253.out 5).trans rfl, (blk_cell BK253.out 6).trans rfl, (blk_cell BK253.out 7).trans rfl, (blk_cell BK253.out 8).trans rfl, (blk_cell BK253.out 9).trans rfl, (blk_cell BK253.out 10).trans rfl, (blk_cell BK253.out 11).trans rfl⟩ (fun hHeld => ?_)
 clear hK K
 refine norm_ (a' := ?_) ?_ ?_
 rotate_left
 {
 show Act.put _ (some 73) _ = _
 simp only [Act.put, List.setIfInBounds_toArray, List.set_cons_zero, List.set_cons_succ, i64_w, i32_w]
 rfl
 }
 refine one_ (i := 7) (N := some 74) #[true, true, true, true, true, true, true, true, false] rfl rfl (one_of HT_.out (by kernel_rfl)) (by decide) (fun K hK => ?_)
 refine goes_ Try.func119 (by kernel_rfl) rfl #[.slice Ao79 t296.length co79, .slice Ao80 t299.length co80] (by rfl) rfl rfl wT ?_
 with_reducible refine (spec_l01Join.calls kj3 _ _ t296 _ _ t299 t302 _ ?side1 ?side2 ?side3 ?side4 A36.out).mono ?_
 (case side1 => exact Ch HO298)
 (case side2 => exact (Kd.R_reads' HO298.out).2.1)
 (case side3 => exact Ch HO301)
 (case side4 => exact (Kd.R_reads' HO301.out).2.1)
 rintro e w81 ⟨v303, rfl, ho0, hb⟩
 refine ⟨_, rfl, ?_⟩
 have n0_ := Aside0.mk (Kd.R_elder' (Rh HO259) (Kd.R_base ho0) hb)
 have n1_ := Aside0.mk (Kd.R_elder' (Rh HO262) (Kd.R_base ho0) hb)
 have n2_ := Aside0.mk (Kd.R_elder' (Rh HO265) (Kd.R_base ho0) hb)
 have n3_ := Aside0.mk (Kd.R_elder' (Rh HO268) (Kd.R_base ho0) hb)
 have n4_ := Aside0.mk (Kd.R_elder' (Rh HO271) (Kd.R_base ho0) hb)
 have n5_ := Aside0.mk (Kd.R_elder' (Rh HO274) (Kd.R_base ho0) hb)
 have n6_ := Aside0.mk (Kd.R_elder' (Rh HO277) (Kd.R_base ho0) hb)
 have n7_ := Aside0.mk (Kd.R_elder' (Rh HO280) (Kd.R_base ho0) hb)
 have n8_ := Aside0.mk (Kd.R_elder' (Rh HO283) (Kd.R_base ho0) hb)
 have n9_ := Aside0.mk (Kd.R_elder' (Rh HO286) (Kd.R_base ho0) hb)
 have n10_ := Aside0.mk (Kd.R_elder' (Rh HO289) (Kd.R_base ho0) hb)
 have n11_ := Aside0.mk (Kd.R_elder' (Rh HO292) (Kd.R_base ho0) hb)
 have n12_ := Aside0.mk (Kd.R_elder' (Rh HO295) (Kd.R_base ho0) hb)
 have n13_ := Aside0.mk (Kd.R_elder' (Rh HO298) (Kd.R_base ho0) hb)
 have n14_ := Aside0.mk (Kd.R_elder' (Rh HO301) (Kd.R_base ho0) hb)
 have n15_ := Aside0.mk (Kd.R_lower (Kd.R_new' (Kd.R_new' (Kd.R_new' (Kd.R_new' (Kd.R_new' (Kd.R_new' (Kd.R_new' (Kd.R_new' (Kd.R_new' (Kd.R_new' (Kd.R_new' (Kd.R_new' (Kd.R_new' (Kd.R_new' (Kd.R_new' ho0 (Kd.R_lt (Rh HO259))) (Kd.R_lt (Rh HO262))) (Kd.R_lt (Rh HO265))) (Kd.R_lt (Rh HO268))) (Kd.R_lt (Rh HO271))) (Kd.R_lt (Rh HO274))) (Kd.R_lt (Rh HO277))) (Kd.R_lt (Rh HO280))) (Kd.R_lt (Rh HO283))) (Kd.R_lt (Rh HO286))) (Kd.R_lt (Rh HO289))) (Kd.R_lt (Rh HO292))) (Kd.R_lt (Rh HO295))) (Kd.R_lt (Rh HO298))) (Kd.R_lt (Rh HO301))) (below_size wB))
 have n16_ := Aside0.mk (blk_below (Bh BK253) hb)
 have n17_ := Aside0.mk (below_step wB hb)
 clear HO259
 clear HO262
 clear HO265
 clear HO268
 clear HO271
 clear HO274
 clear HO277
 clear HO280
 clear HO283
 clear HO286
 clear HO289
 clear HO292
 clear HO295
 clear HO298
 clear HO301
 clear BK253
 clear HB
 have HO259 := n0_
 have HO262 := n1_
 have HO265 := n2_
 have HO268 := n3_
 have HO271 := n4_
 have HO274 := n5_
 have HO277 := n6_
 have HO280 := n7_
 have HO283 := n8_
 have HO286 := n9_
 have HO289 := n10_
 have HO292 := n11_
 have HO295 := n12_
 have HO298 := n13_
 have HO301 := n14_
 have HO304 := n15_
 have BK253 := n16_
 have HB := n17_
 clear n0_ n1_ n2_ n3_ n4_ n5_ n6_ n7_ n8_ n9_ n10_ n11_ n12_ n13_ n14_ n15_ n16_ n17_
 (try clear hb)
 (try clear hb2)
 (try clear hk)
 (try clear hi)
 (try clear ho0)
 refine hK.out _ _ ⟨(blk_cell BK253.out 0).trans rfl, (blk_cell BK253.out 1).trans rfl, (blk_cell BK253.out 2).trans rfl, (blk_cell BK253.out 3).trans rfl, (blk_cell BK253.out 4).trans rfl, (blk_cell BK253.out 5).trans rfl, (blk_cell BK253.out 6).trans rfl, (blk_cell BK253.out 7).trans rfl, (blk_cell BK253.out 8).trans rfl, (blk_cell BK253.out 9).trans rfl, (blk_cell BK253.out 10).trans rfl, (blk_cell BK253.out 11).trans rfl⟩ (fun hHeld => ?_)
 clear hK K
 refine norm_ (a' := ?_) ?_ ?_
 rotate_left
 {
 show Act.put _ (some 74) _ = _
 simp only [Act.put, List.setIfInBounds_toArray, List.set_cons_zero, List.set_cons_succ, i64_w, i32_w]
 rfl
 }
 refine pure_ (i := 8) (N := some 9) (v := ?_) (a' := ?_) #[true, true, true, true, true, true, true, true, true] rfl rfl (any_of HT_.out (by kernel_rfl)) (fun _ _ _ h => h) (Or.inl ⟨by rfl, ?_⟩) ?_ ?_
 rotate_left
 {
 intro w'
 go_simp
 with_reducible rfl
 }
 rotate_left
 {
 simp only [Act.put, List.setIfInBounds_toArray, List.set_cons_zero, List.set_cons_succ, i64_w, i32_w]
 rfl
 }
 refine done_ (done_of HT_.out (by kernel_rfl)) ?_
 have n_ := Aside0.mk (Kd.R_mono (ok' := (fun _ => True)) HO304.out (fun k_ hk => trivial))
 clear HO304
 have HO304 := n_
 clear n_
 (try clear HO259)
 (try clear HO262)
 (try clear HO265)
 (try clear HO268)
 (try clear HO271)
 (try clear HO274)
 (try clear HO277)
 (try clear HO280)
 (try clear HO283)
 (try clear HO286)
 (try clear HO289)
 (try clear HO292)
 (try clear HO295)
 (try clear HO298)
 (try clear HO301)
 obtain ⟨Ao82, co82, eo82⟩ := Kd.R_slice HO304.out
 subst eo82
 try go_wp2_with (first | ((with_reducible refine gate_callee (f := 125) rfl ?_); refine goesL_ (some 78) rfl rfl Try.func125 (by kernel_rfl) rfl #[.slice Ao82 t302.length co82, .int .i64 a1, .int .i64 a2, .int .i64 6] rfl wT ?_; (with_reducible refine (spec_l10Sum.calls kj3 _ _ t302 a1 a2 6 t305 _ ?side1 ?side2 A37.out).mono ?_); (case side1 => exact Ch HO304); (case side2 => exact (Kd.R_reads' HO304.out).2.1); rintro e w83 ⟨rfl, hb⟩; refine ⟨_, rfl, ?_⟩; have n0_ := Aside0.mk (Kd.R_below (Rh HO304) hb); have n1_ := Aside0.mk (blk_below (Bh BK253) hb); have n2_ := Aside0.mk (below_step wB hb); clear HO304; clear BK253; clear HB; have HO304 := n0_; have BK253 := n1_; have HB := n2_; clear n0_ n1_ n2_; (try clear hb); (try clear hb2); (try clear hk); (try clear hi); have p39 : 0 ≤ (16 : Int) := (by omega); have q39 : (16 : Int) < ((t302.length : Int) : Int) := of_decide_eq_true (by first | (with_reducible assumption) | assumption); have qi39 : (16 < t302.length) = True := eq_true (by omega); obtain ⟨go39, co39, eo39, gb39, gl39, cl39, HG39⟩ := Kd.R_form HO304.out (by omega); (first | cases eo39 | (injection eo39 with ea_ en_ ec_; (first | subst ea_ | (injection ea_ with ea_; subst ea_)); subst ec_; clear en_)); have GB39 := Aside0.mk gb39; have GG39 := Aside0.mk HG39; clear gb39 gl39 HG39; obtain ⟨hx39_0, hf39_0⟩ := Kd.R_celln 0 HO304.out (16 : Int) p39 q39; (try rw [show ((16 : Int)).toNat = 16 from rfl] at hx39_0); (try simp only [Nat.reduceMul, Nat.zero_mul, Nat.zero_add, Nat.reduceAdd] at hx39_0); (try rw [show ((16 : Int)).toNat = 16 from rfl] at hf39_0); (try simp only [Nat.reduceMul, Nat.zero_mul, Nat.zero_add, Nat.reduceAdd] at hf39_0); replace p39 := eq_true p39; replace q39 := eq_true q39; obtain ⟨hy84_, hz84_⟩ := Kd.R_celln 0 HO304.out (16 : Int) (by omega) (of_decide_eq_true (by first | (with_reducible assumption) | assumption)); (try simp only [Int.reduceToNat, Int.toNat_zero, Int.toNat_ofNat, Nat.reduceMul, Nat.zero_mul, Nat.zero_add] at hy84_ hz84_); (try rw [show ((16 : Int)).toNat = 16 from rfl] at hy84_); (try rw [show ((16 : Int)).toNat = 16 from rfl] at hz84_); have HP84 := Kd.R_putg HO304.out (16 : Int) ((t305 / 256) % 256)) | ((with_reducible refine gate_store (t := 5) (p := 83) rfl ?_); (try (rw [drewN_self w83]; generalize hq_ : World.drewN w83 _ = w83; have n0_ := Aside0.mk (Kd.R_at hq_ HO304.out); have n1_ := Aside0.mk (blk_at hq_ BK253.out); have n2_ := Aside0.mk (below_at hq_ HB.out); clear hq_ HO304 BK253 HB; have HO304 := n0_; have BK253 := n1_; have HB := n2_; clear n0_ n1_ n2_; (try (obtain ⟨⟨hcyBK253_0, hcyBK253_1, hcyBK253_2, hcyBK253_3, hcyBK253_4, hcyBK253_5, hcyBK253_6, hcyBK253_7, hcyBK253_8, hcyBK253_9, hcyBK253_10, hcyBK253_11⟩, hfyBK253_0, hfyBK253_1, hfyBK253_2, hfyBK253_3, hfyBK253_4, hfyBK253_5, hfyBK253_6, hfyBK253_7, hfyBK253_8, hfyBK253_9, hfyBK253_10, hfyBK253_11⟩ := cells12 BK253.out)); (try (obtain ⟨hy84_, hz84_⟩ := Kd.R_celln 0 HO304.out (16 : Int) (by omega) (of_decide_eq_true (by first | (with_reducible assumption) | assumption)))); (try (try simp only [Int.reduceToNat, Int.toNat_zero, Int.toNat_ofNat, Nat.reduceMul, Nat.zero_mul, Nat.zero_add] at hy84_ hz84_)); (try (try rw [show ((16 : Int)).toNat = 16 from rfl] at hy84_)); (try (try rw [show ((16 : Int)).toNat = 16 from rfl] at hz84_)); (try (have HP84 := Kd.R_putg HO304.out (16 : Int) ((t305 / 256) % 256))))); refine store_event (t := 5) (p := 83) (v := ?vo_w85) (w1 := (w83.setCell ⟨go39, (16 : Int).toNat, none⟩ (.int .u8 ((t305 / 256) % 256)))) ?hg ?ho ?hn ?hr ?_; (case ho => rfl); (case hg => rfl); (case hn => rfl); (case hr => first | (go_simp; done) | (go_simp; rfl)); intro w85 hw; have hg : w83.grownBy w85 (some go39) := (by rw [hw]; exact HP84.2); have hp_ : Kd.R (Kd.int .u8) 5 w85 w.heap.size (fun _ => True) (.slice (some ⟨go39, 0, none⟩) t302.length co82) y306 := (by rw [hw, Ny306.out]; exact HP84.1); clear HP84; have n0_ := Aside0.mk (blk_grown (Bh BK253) hg (Kd.R_ne HO304.out BK253.out (by decide))); have n1_ := Aside0.mk (hp_); have n2_ := Aside0.mk ((by rw [hw]; exact below_set (HB.out) GB39.out : Below w.heap.size w w85)); clear BK253; clear HO304; clear HB; have BK253 := n0_; have HO304 := n1_; have HB := n2_; clear n0_ n1_ n2_; clear hg hw hp_; have p41 : 0 ≤ (17 : Int) := (by omega); have q41 : (17 : Int) < ((t302.length : Int) : Int) := of_decide_eq_true (by first | (with_reducible assumption) | assumption); have qi41 : (17 < t302.length) = True := eq_true (by omega); obtain ⟨hx41_0, hf41_0⟩ := Kd.R_celln 0 HO304.out (17 : Int) p41 q41; (try rw [show ((17 : Int)).toNat = 17 from rfl] at hx41_0); (try simp only [Nat.reduceMul, Nat.zero_mul, Nat.zero_add, Nat.reduceAdd] at hx41_0); (try rw [show ((17 : Int)).toNat = 17 from rfl] at hf41_0); (try simp only [Nat.reduceMul, Nat.zero_mul, Nat.zero_add, Nat.reduceAdd] at hf41_0); replace p41 := eq_true p41; replace q41 := eq_true q41; obtain ⟨hy86_, hz86_⟩ := Kd.R_celln 0 HO304.out (17 : Int) (by omega) (of_decide_eq_true (by first | (with_reducible assumption) | assumption)); (try simp only [Int.reduceToNat, Int.toNat_zero, Int.toNat_ofNat, Nat.reduceMul, Nat.zero_mul, Nat.zero_add] at hy86_ hz86_); (try rw [show ((17 : Int)).toNat = 17 from rfl] at hy86_); (try rw [show ((17 : Int)).toNat = 17 from rfl] at hz86_); have HP86 := Kd.R_putg HO304.out (17 : Int) ((t305) % 256)) | ((with_reducible refine gate_store (t := 5) (p := 87) rfl ?_); (try (rw [drewN_self w85]; generalize hq_ : World.drewN w85 _ = w85; have n0_ := Aside0.mk (Kd.R_at hq_ HO304.out); have n1_ := Aside0.mk (blk_at hq_ BK253.out); have n2_ := Aside0.mk (below_at hq_ HB.out); clear hq_ HO304 BK253 HB; have HO304 := n0_; have BK253 := n1_; have HB := n2_; clear n0_ n1_ n2_; (try (obtain ⟨⟨hcyBK253_0, hcyBK253_1, hcyBK253_2, hcyBK253_3, hcyBK253_4, hcyBK253_5, hcyBK253_6, hcyBK253_7, hcyBK253_8, hcyBK253_9, hcyBK253_10, hcyBK253_11⟩, hfyBK253_0, hfyBK253_1, hfyBK253_2, hfyBK253_3, hfyBK253_4, hfyBK253_5, hfyBK253_6, hfyBK253_7, hfyBK253_8, hfyBK253_9, hfyBK253_10, hfyBK253_11⟩ := cells12 BK253.out)); (try (obtain ⟨hy86_, hz86_⟩ := Kd.R_celln 0 HO304.out (17 : Int) (by omega) (of_decide_eq_true (by first | (with_reducible assumption) | assumption)))); (try (try simp only [Int.reduceToNat, Int.toNat_zero, Int.toNat_ofNat, Nat.reduceMul, Nat.zero_mul, Nat.zero_add] at hy86_ hz86_)); (try (try rw [show ((17 : Int)).toNat = 17 from rfl] at hy86_)); (try (try rw [show ((17 : Int)).toNat = 17 from rfl] at hz86_)); (try (have HP86 := Kd.R_putg HO304.out (17 : Int) ((t305) % 256))))); refine store_event (t := 5) (p := 87) (v := ?vo_w87) (w1 := (w85.setCell ⟨go39, (17 : Int).toNat, none⟩ (.int .u8 ((t305) % 256)))) ?hg ?ho ?hn ?hr ?_; (case ho => rfl); (case hg => rfl); (case hn => rfl); (case hr => first | (go_simp; done) | (go_simp; rfl)); intro w87 hw; have hg : w85.grownBy w87 (some go39) := (by rw [hw]; exact HP86.2); have hp_ : Kd.R (Kd.int .u8) 5 w87 w.heap.size (fun _ => True) (.slice (some ⟨go39, 0, none⟩) t302.length co82) y307 := (by rw [hw, Ny307.out]; exact HP86.1); clear HP86; have n0_ := Aside0.mk (blk_grown (Bh BK253) hg (Kd.R_ne HO304.out BK253.out (by decide))); have n1_ := Aside0.mk (hp_); have n2_ := Aside0.mk ((by rw [hw]; exact below_set (HB.out) GB39.out : Below w.heap.size w w87)); clear BK253; clear HO304; clear HB; have BK253 := n0_; have HO304 := n1_; have HB := n2_; clear n0_ n1_ n2_; clear hg hw hp_))
 go_ret2
 exact ⟨_, by first | rfl | (simp [errW_none, errW_some] <;> rfl) | (simp [*, errW_none, errW_some] <;> rfl), by (with_reducible repeat (first | apply Kd.R_alloc | apply Kd.R_drewN | apply Kd.R_drew)); exact HO304.out, wB⟩
 }
 {
 rw [if_neg c40] at H
 exact absurd H (by simp)
 }
 }
 {
 rw [if_neg c38] at H
 exact absurd H (by simp)
 }
 }
 }
 }
 )

end Go.Proofs.Ytobaoffcepmeiaa.PFnExactEncodeSegment
