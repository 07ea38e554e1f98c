-- Written for this claim by a program of this session (wip/mkprint.py: the print, turned at a few places). Not trusted: Lean checks it.
import Derived.Test.YtobaoffcepmeiaaPFnExactEncodeSegmentx0
import Derived.Test.YtobaoffcepmeiaaPFnExactEncodeSegmentx3
import Derived.Test.YtobaoffcepmeiaaPFnExactEncodeSegmentx4
namespace Go.Proofs.Ytobaoffcepmeiaa.PFnExactEncodeSegment
open Go.RowKit Go.Proofs.YtobaoffcepmeiaaW.PrintWords Go.Proofs.YtobaoffcepmeiaaW.PrintLast Go.Proofs.YtobaoffcepmeiaaW.PrintMore
attribute [local go_sem] max2_int min2_int max_two min_two max_three min_three max_four min_four   -- for this text's walks alone
set_option linter.unusedVariables false
set_option linter.unusedSimpArgs false

/-! ### spec_l11Options: function 123 -/
mutual
def spec_l11Options.j0 : Nat → List Int → Int → Int → Int → Int → Int → Int → Int → Bool → Int → Bool → List (S157) → List Int → Option (List Int)
  | 0, _, _, _, _, _, _, _, _, _, _, _, _, _ => none
  | k + 1, x3, x178000, x178001, x178002, x178003, x178004, x178005, x178006, x178007, x178008, x178009, x178010, x178011 => if x178007 = true then ((spec_l01Join.f k x3 (([1, 3, 3, (x178008) % 256] : List Int))).bind fun t193 => (spec_l11Options.j1 k t193 x178000 x178001 x178002 x178003 x178004 x178005 x178006 x178007 x178008 x178009 x178010 x178011)) else (spec_l11Options.j1 k x3 x178000 x178001 x178002 x178003 x178004 x178005 x178006 x178007 x178008 x178009 x178010 x178011)
def spec_l11Options.j1 : Nat → List Int → Int → Int → Int → Int → Int → Int → Int → Bool → Int → Bool → List (S157) → List Int → Option (List Int)
  | 0, _, _, _, _, _, _, _, _, _, _, _, _, _ => none
  | k + 1, x3, x178000, x178001, x178002, x178003, x178004, x178005, x178006, x178007, x178008, x178009, x178010, x178011 => if x178009 = true then ((spec_l01Join.f k x3 (([1, 1, 4, 2] : List Int))).bind fun t199 => (spec_l11Options.j2 k t199 x178000 x178001 x178002 x178003 x178004 x178005 x178006 x178007 x178008 x178009 x178010 x178011)) else (spec_l11Options.j2 k x3 x178000 x178001 x178002 x178003 x178004 x178005 x178006 x178007 x178008 x178009 x178010 x178011)
def spec_l11Options.j2 : Nat → List Int → Int → Int → Int → Int → Int → Int → Int → Bool → Int → Bool → List (S157) → List Int → Option (List Int)
  | 0, _, _, _, _, _, _, _, _, _, _, _, _, _ => none
  | k + 1, x3, x178000, x178001, x178002, x178003, x178004, x178005, x178006, x178007, x178008, x178009, x178010, x178011 => if (x178010.length : Int) > 0 then ((spec_l01Join.f k x3 (([1, 1, 5, (wrap64 (2 + (wrap64 (8 * (x178010.length : Int))))) % 256] : List Int))).bind fun t205 => (spec_l11Options.j3 k t205 x178000 x178001 x178002 x178003 x178004 x178005 x178006 x178007 x178008 x178009 x178010 x178011)) else (spec_l11Options.j3 k x3 x178000 x178001 x178002 x178003 x178004 x178005 x178006 x178007 x178008 x178009 x178010 x178011)
def spec_l11Options.j3 : Nat → List Int → Int → Int → Int → Int → Int → Int → Int → Bool → Int → Bool → List (S157) → List Int → Option (List Int)
  | 0, _, _, _, _, _, _, _, _, _, _, _, _, _ => none
  | k + 1, x3, x178000, x178001, x178002, x178003, x178004, x178005, x178006, x178007, x178008, x178009, x178010, x178011 => spec_l11Options.l0 k x3 0 x178000 x178001 x178002 x178003 x178004 x178005 x178006 x178007 x178008 x178009 x178010 x178011
def spec_l11Options.l0 : Nat → List Int → Int → Int → Int → Int → Int → Int → Int → Int → Bool → Int → Bool → List (S157) → List Int → Option (List Int)
  | 0, _, _, _, _, _, _, _, _, _, _, _, _, _, _ => none
  | k + 1, x3, x4, x178000, x178001, x178002, x178003, x178004, x178005, x178006, x178007, x178008, x178009, x178010, x178011 => if x4 < (x178010.length : Int) then (if 0 ≤ x4 then ((spec_l03Put.f k ((rd_T157 x178010 x4).f0) 4).bind fun t209 => ((spec_l01Join.f k x3 t209).bind fun t212 => ((spec_l03Put.f k ((rd_T157 x178010 x4).f1) 4).bind fun t216 => ((spec_l01Join.f k t212 t216).bind fun t219 => (spec_l11Options.l0 k t219 (wrap64 (x4 + 1)) x178000 x178001 x178002 x178003 x178004 x178005 x178006 x178007 x178008 x178009 x178010 x178011))))) else (none)) else (some x3)
end
def spec_l11Options.f (k : Nat) (a0_0 : Int) (a0_1 : Int) (a0_2 : Int) (a0_3 : Int) (a0_4 : Int) (a0_5 : Int) (a0_6 : Int) (a0_7 : Bool) (a0_8 : Int) (a0_9 : Bool) (l0_10 : List (S157)) (l0_11 : List Int) : Option (List Int) := if a0_6 = 0 then (spec_l11Options.j0 k (([] : List Int)) a0_0 a0_1 a0_2 a0_3 a0_4 a0_5 a0_6 a0_7 a0_8 a0_9 l0_10 l0_11) else ((spec_l03Put.f k a0_6 2).bind fun t184 => ((spec_l01Join.f k (([2, 4] : List Int)) t184).bind fun t187 => (spec_l11Options.j0 k t187 a0_0 a0_1 a0_2 a0_3 a0_4 a0_5 a0_6 a0_7 a0_8 a0_9 l0_10 l0_11)))
theorem spec_l11Options.mono_l : ∀ k, (∀ y0 y1 y2 y3 y4 y5 y6 y7 y8 y9 y10 y11 y12, LeO (spec_l11Options.j0 k y0 y1 y2 y3 y4 y5 y6 y7 y8 y9 y10 y11 y12) (spec_l11Options.j0 (k + 1) y0 y1 y2 y3 y4 y5 y6 y7 y8 y9 y10 y11 y12)) ∧ (∀ y0 y1 y2 y3 y4 y5 y6 y7 y8 y9 y10 y11 y12, LeO (spec_l11Options.j1 k y0 y1 y2 y3 y4 y5 y6 y7 y8 y9 y10 y11 y12) (spec_l11Options.j1 (k + 1) y0 y1 y2 y3 y4 y5 y6 y7 y8 y9 y10 y11 y12)) ∧ (∀ y0 y1 y2 y3 y4 y5 y6 y7 y8 y9 y10 y11 y12, LeO (spec_l11Options.j2 k y0 y1 y2 y3 y4 y5 y6 y7 y8 y9 y10 y11 y12) (spec_l11Options.j2 (k + 1) y0 y1 y2 y3 y4 y5 y6 y7 y8 y9 y10 y11 y12)) ∧ (∀ y0 y1 y2 y3 y4 y5 y6 y7 y8 y9 y10 y11 y12, LeO (spec_l11Options.j3 k y0 y1 y2 y3 y4 y5 y6 y7 y8 y9 y10 y11 y12) (spec_l11Options.j3 (k + 1) y0 y1 y2 y3 y4 y5 y6 y7 y8 y9 y10 y11 y12)) ∧ (∀ y0 y1 y2 y3 y4 y5 y6 y7 y8 y9 y10 y11 y12 y13, LeO (spec_l11Options.l0 k y0 y1 y2 y3 y4 y5 y6 y7 y8 y9 y10 y11 y12 y13) (spec_l11Options.l0 (k + 1) y0 y1 y2 y3 y4 y5 y6 y7 y8 y9 y10 y11 y12 y13))
  | 0 => ⟨fun _ _ _ _ _ _ _ _ _ _ _ _ _ r h => by simp [spec_l11Options.j0] at h, fun _ _ _ _ _ _ _ _ _ _ _ _ _ r h => by simp [spec_l11Options.j1] at h, fun _ _ _ _ _ _ _ _ _ _ _ _ _ r h => by simp [spec_l11Options.j2] at h, fun _ _ _ _ _ _ _ _ _ _ _ _ _ r h => by simp [spec_l11Options.j3] at h, fun _ _ _ _ _ _ _ _ _ _ _ _ _ _ r h => by simp [spec_l11Options.l0] at h⟩
  | k + 1 => by
    obtain ⟨ih0, ih1, ih2, ih3, ih4⟩ := spec_l11Options.mono_l k
    refine ⟨?_, ?_, ?_, ?_, ?_⟩
    · intro y0 y1 y2 y3 y4 y5 y6 y7 y8 y9 y10 y11 y12
      unfold spec_l11Options.j0
      repeat' first
      | (with_reducible exact ih0 _ _ _ _ _ _ _ _ _ _ _ _ _)
      | (with_reducible exact ih1 _ _ _ _ _ _ _ _ _ _ _ _ _)
      | (with_reducible exact ih2 _ _ _ _ _ _ _ _ _ _ _ _ _)
      | (with_reducible exact ih3 _ _ _ _ _ _ _ _ _ _ _ _ _)
      | (with_reducible exact ih4 _ _ _ _ _ _ _ _ _ _ _ _ _ _)
      | (with_reducible exact spec_l01Join.mono _ _ _)
      | (with_reducible exact spec_l03Put.mono _ _ _)
      | (with_reducible exact LeO.refl _)
      | (with_reducible exact LeO.none _)
      | (with_reducible refine LeO.ite ?_ ?_)
      | (with_reducible refine LeO.bind ?_ (fun _ => ?_))
      | exact ih0 _ _ _ _ _ _ _ _ _ _ _ _ _
      | exact ih1 _ _ _ _ _ _ _ _ _ _ _ _ _
      | exact ih2 _ _ _ _ _ _ _ _ _ _ _ _ _
      | exact ih3 _ _ _ _ _ _ _ _ _ _ _ _ _
      | exact ih4 _ _ _ _ _ _ _ _ _ _ _ _ _ _
      | exact spec_l01Join.mono _ _ _
      | exact spec_l03Put.mono _ _ _
      | exact LeO.none _
      | refine LeO.ite ?_ ?_
      | refine LeO.bind ?_ (fun _ => ?_)
    · intro y0 y1 y2 y3 y4 y5 y6 y7 y8 y9 y10 y11 y12
      unfold spec_l11Options.j1
      repeat' first
      | (with_reducible exact ih0 _ _ _ _ _ _ _ _ _ _ _ _ _)
      | (with_reducible exact ih1 _ _ _ _ _ _ _ _ _ _ _ _ _)
      | (with_reducible exact ih2 _ _ _ _ _ _ _ _ _ _ _ _ _)
      | (with_reducible exact ih3 _ _ _ _ _ _ _ _ _ _ _ _ _)
      | (with_reducible exact ih4 _ _ _ _ _ _ _ _ _ _ _ _ _ _)
      | (with_reducible exact spec_l01Join.mono _ _ _)
      | (with_reducible exact spec_l03Put.mono _ _ _)
      | (with_reducible exact LeO.refl _)
      | (with_reducible exact LeO.none _)
      | (with_reducible refine LeO.ite ?_ ?_)
      | (with_reducible refine LeO.bind ?_ (fun _ => ?_))
      | exact ih0 _ _ _ _ _ _ _ _ _ _ _ _ _
      | exact ih1 _ _ _ _ _ _ _ _ _ _ _ _ _
      | exact ih2 _ _ _ _ _ _ _ _ _ _ _ _ _
      | exact ih3 _ _ _ _ _ _ _ _ _ _ _ _ _
      | exact ih4 _ _ _ _ _ _ _ _ _ _ _ _ _ _
      | exact spec_l01Join.mono _ _ _
      | exact spec_l03Put.mono _ _ _
      | exact LeO.none _
      | refine LeO.ite ?_ ?_
      | refine LeO.bind ?_ (fun _ => ?_)
    · intro y0 y1 y2 y3 y4 y5 y6 y7 y8 y9 y10 y11 y12
      unfold spec_l11Options.j2
      repeat' first
      | (with_reducible exact ih0 _ _ _ _ _ _ _ _ _ _ _ _ _)
      | (with_reducible exact ih1 _ _ _ _ _ _ _ _ _ _ _ _ _)
      | (with_reducible exact ih2 _ _ _ _ _ _ _ _ _ _ _ _ _)
      | (with_reducible exact ih3 _ _ _ _ _ _ _ _ _ _ _ _ _)
      | (with_reducible exact ih4 _ _ _ _ _ _ _ _ _ _ _ _ _ _)
      | (with_reducible exact spec_l01Join.mono _ _ _)
      | (with_reducible exact spec_l03Put.mono _ _ _)
      | (with_reducible exact LeO.refl _)
      | (with_reducible exact LeO.none _)
      | (with_reducible refine LeO.ite ?_ ?_)
      | (with_reducible refine LeO.bind ?_ (fun _ => ?_))
      | exact ih0 _ _ _ _ _ _ _ _ _ _ _ _ _
      | exact ih1 _ _ _ _ _ _ _ _ _ _ _ _ _
      | exact ih2 _ _ _ _ _ _ _ _ _ _ _ _ _
      | exact ih3 _ _ _ _ _ _ _ _ _ _ _ _ _
      | exact ih4 _ _ _ _ _ _ _ _ _ _ _ _ _ _
      | exact spec_l01Join.mono _ _ _
      | exact spec_l03Put.mono _ _ _
      | exact LeO.none _
      | refine LeO.ite ?_ ?_
      | refine LeO.bind ?_ (fun _ => ?_)
    · intro y0 y1 y2 y3 y4 y5 y6 y7 y8 y9 y10 y11 y12
      unfold spec_l11Options.j3
      repeat' first
      | (with_reducible exact ih0 _ _ _ _ _ _ _ _ _ _ _ _ _)
      | (with_reducible exact ih1 _ _ _ _ _ _ _ _ _ _ _ _ _)
      | (with_reducible exact ih2 _ _ _ _ _ _ _ _ _ _ _ _ _)
      | (with_reducible exact ih3 _ _ _ _ _ _ _ _ _ _ _ _ _)
      | (with_reducible exact ih4 _ _ _ _ _ _ _ _ _ _ _ _ _ _)
      | (with_reducible exact spec_l01Join.mono _ _ _)
      | (with_reducible exact spec_l03Put.mono _ _ _)
      | (with_reducible exact LeO.refl _)
      | (with_reducible exact LeO.none _)
      | (with_reducible refine LeO.ite ?_ ?_)
      | (with_reducible refine LeO.bind ?_ (fun _ => ?_))
      | exact ih0 _ _ _ _ _ _ _ _ _ _ _ _ _
      | exact ih1 _ _ _ _ _ _ _ _ _ _ _ _ _
      | exact ih2 _ _ _ _ _ _ _ _ _ _ _ _ _
      | exact ih3 _ _ _ _ _ _ _ _ _ _ _ _ _
      | exact ih4 _ _ _ _ _ _ _ _ _ _ _ _ _ _
      | exact spec_l01Join.mono _ _ _
      | exact spec_l03Put.mono _ _ _
      | exact LeO.none _
      | refine LeO.ite ?_ ?_
      | refine LeO.bind ?_ (fun _ => ?_)
    · intro y0 y1 y2 y3 y4 y5 y6 y7 y8 y9 y10 y11 y12 y13
      unfold spec_l11Options.l0
      repeat' first
      | (with_reducible exact ih0 _ _ _ _ _ _ _ _ _ _ _ _ _)
      | (with_reducible exact ih1 _ _ _ _ _ _ _ _ _ _ _ _ _)
      | (with_reducible exact ih2 _ _ _ _ _ _ _ _ _ _ _ _ _)
      | (with_reducible exact ih3 _ _ _ _ _ _ _ _ _ _ _ _ _)
      | (with_reducible exact ih4 _ _ _ _ _ _ _ _ _ _ _ _ _ _)
      | (with_reducible exact spec_l01Join.mono _ _ _)
      | (with_reducible exact spec_l03Put.mono _ _ _)
      | (with_reducible exact LeO.refl _)
      | (with_reducible exact LeO.none _)
      | (with_reducible refine LeO.ite ?_ ?_)
      | (with_reducible refine LeO.bind ?_ (fun _ => ?_))
      | exact ih0 _ _ _ _ _ _ _ _ _ _ _ _ _
      | exact ih1 _ _ _ _ _ _ _ _ _ _ _ _ _
      | exact ih2 _ _ _ _ _ _ _ _ _ _ _ _ _
      | exact ih3 _ _ _ _ _ _ _ _ _ _ _ _ _
      | exact ih4 _ _ _ _ _ _ _ _ _ _ _ _ _ _
      | exact spec_l01Join.mono _ _ _
      | exact spec_l03Put.mono _ _ _
      | exact LeO.none _
      | refine LeO.ite ?_ ?_
      | refine LeO.bind ?_ (fun _ => ?_)
theorem spec_l11Options.mono : ∀ a0 a1 a2 a3 a4 a5 a6 a7 a8 a9 a10 a11 k, LeO (spec_l11Options.f k a0 a1 a2 a3 a4 a5 a6 a7 a8 a9 a10 a11) (spec_l11Options.f (k + 1) a0 a1 a2 a3 a4 a5 a6 a7 a8 a9 a10 a11) := by
 intro a0 a1 a2 a3 a4 a5 a6 a7 a8 a9 a10 a11 k
 obtain ⟨ih0, ih1, ih2, ih3, ih4⟩ := spec_l11Options.mono_l k
 unfold spec_l11Options.f
 repeat' first
     | (with_reducible exact ih0 _ _ _ _ _ _ _ _ _ _ _ _ _)
     | (with_reducible exact ih1 _ _ _ _ _ _ _ _ _ _ _ _ _)
     | (with_reducible exact ih2 _ _ _ _ _ _ _ _ _ _ _ _ _)
     | (with_reducible exact ih3 _ _ _ _ _ _ _ _ _ _ _ _ _)
     | (with_reducible exact ih4 _ _ _ _ _ _ _ _ _ _ _ _ _ _)
     | (with_reducible exact spec_l01Join.mono _ _ _)
     | (with_reducible exact spec_l03Put.mono _ _ _)
     | (with_reducible exact LeO.refl _)
     | (with_reducible exact LeO.none _)
     | (with_reducible refine LeO.ite ?_ ?_)
     | (with_reducible refine LeO.bind ?_ (fun _ => ?_))
     | exact ih0 _ _ _ _ _ _ _ _ _ _ _ _ _
     | exact ih1 _ _ _ _ _ _ _ _ _ _ _ _ _
     | exact ih2 _ _ _ _ _ _ _ _ _ _ _ _ _
     | exact ih3 _ _ _ _ _ _ _ _ _ _ _ _ _
     | exact ih4 _ _ _ _ _ _ _ _ _ _ _ _ _ _
     | exact spec_l01Join.mono _ _ _
     | exact spec_l03Put.mono _ _ _
     | exact LeO.none _
     | refine LeO.ite ?_ ?_
     | refine LeO.bind ?_ (fun _ => ?_)
def spec_l11Options.T13 : Bool × List (List Nat × List Nat) := (true, [([], []), ([], []), ([1], [1]), ([], []), ([2, 3], [2, 3]), ([4], [4]), ([5], [5]), ([6], [6]), ([0, 7, 7], [0, 7]), ([], []), ([9], [9]), ([], []), ([10, 11], [10, 11]), ([12], [12]), ([13], [13]), ([14, 8], [14]), ([8, 15, 15], [8, 15]), ([16, 16, 0, 1, 2, 3, 4, 5, 6, 7, 8, 9, 10, 11, 12, 13, 14, 15, 16], [0, 16])])
def spec_l11Options.B13 : List Nat := [0, 0, 2, 0, 14, 30, 62, 126, 255, 0, 512, 0, 3584, 7680, 15872, 32767, 65535, 131071]
theorem spec_l11Options.tab13 : rtab .any (opsOf Try.f123 13) = spec_l11Options.T13 := by kernel_rfl
theorem spec_l11Options.bits13 : waitsOk spec_l11Options.T13.2 spec_l11Options.B13 = true := by kernel_rfl
set_option maxHeartbeats 8000000 in
set_option maxRecDepth 100000 in
theorem spec_l11Options.calls (k : Nat) (a0_0 : Int) (a0_1 : Int) (a0_2 : Int) (a0_3 : Int) (a0_4 : Int) (a0_5 : Int) (a0_6 : Int) (a0_7 : Bool) (a0_8 : Int) (a0_9 : Bool) (A0_10 : Option Addr) (c0_10 : Nat) (l0_10 : List (S157)) (A0_11 : Option Addr) (c0_11 : Nat) (l0_11 : List Int) (r : List Int) (w : World) (hr0_10 : Kd.C k157 w A0_10 l0_10.length l0_10) (hc0_10 : l0_10.length ≤ c0_10) (hr0_11 : Kd.C (Kd.int .u8) w A0_11 l0_11.length l0_11) (hc0_11 : l0_11.length ≤ c0_11) (h : spec_l11Options.f k a0_0 a0_1 a0_2 a0_3 a0_4 a0_5 a0_6 a0_7 a0_8 a0_9 l0_10 l0_11 = some r) :
 Calls Try.prog 123 #[.agg #[.int .i64 a0_0, .int .i64 a0_1, .int .i64 a0_2, .int .i64 a0_3, .int .i64 a0_4, .int .i64 a0_5, .int .i64 a0_6, .bool a0_7, .int .i64 a0_8, .bool a0_9, .slice A0_10 l0_10.length c0_10, .slice A0_11 l0_11.length c0_11]] w fun e w' => ∃ v0_ : Value, e = .returned (v0_) ∧ Kd.R (Kd.int .u8) 5 w' w.heap.size (fun _ => True) v0_ r ∧ Below w.heap.size w w' := by
 have hu51 := Try.underlying51
 have HR0_10 := Aside0.mk hr0_10
 have HC0_10 := Aside0.mk hc0_10
 clear hr0_10 hc0_10
 have HR0_11 := Aside0.mk hr0_11
 have HC0_11 := Aside0.mk hc0_11
 clear hr0_11 hc0_11
 have HB := Aside0.mk (Below.refl w.heap.size w)
 have H : (if a0_6 = 0 then (spec_l11Options.j0 k (([] : List Int)) a0_0 a0_1 a0_2 a0_3 a0_4 a0_5 a0_6 a0_7 a0_8 a0_9 l0_10 l0_11) else ((spec_l03Put.f k a0_6 2).bind fun t184 => ((spec_l01Join.f k (([2, 4] : List Int)) t184).bind fun t187 => (spec_l11Options.j0 k t187 a0_0 a0_1 a0_2 a0_3 a0_4 a0_5 a0_6 a0_7 a0_8 a0_9 l0_10 l0_11)))) = some r := h
 clear h
 obtain ⟨y178, hy178⟩ : ∃ y_ : List Int, y_ = (([] : List Int)) := ⟨_, rfl⟩
 replace H : (if a0_6 = 0 then (spec_l11Options.j0 k y178 a0_0 a0_1 a0_2 a0_3 a0_4 a0_5 a0_6 a0_7 a0_8 a0_9 l0_10 l0_11) else ((spec_l03Put.f k a0_6 2).bind fun t184 => ((spec_l01Join.f k (([2, 4] : List Int)) t184).bind fun t187 => (spec_l11Options.j0 k t187 a0_0 a0_1 a0_2 a0_3 a0_4 a0_5 a0_6 a0_7 a0_8 a0_9 l0_10 l0_11)))) = some r := by first | (rw [hy178]; with_reducible exact H) | (have H2_ := (Option.bind_some _ _).symm.trans H; rw [hy178]; with_reducible exact H2_) | (have H2_ := (Option.bind_some _ _).symm.trans H; with_reducible exact H2_) | with_reducible exact H | (rw [hy178]; exact H) | exact H
 have Ny178 := Aside0.mk hy178
 clear hy178
 have HC2 := Aside0.mk H
 clear H
 go_enter Try.func123, Try.ntmps123
 go_upto_if 8 with (first | ((with_reducible refine gate_dst (N := 1) rfl ?_); refine box_event ?hg (N := 1) ?hd (cs := #[.int .i64 a0_0, .int .i64 a0_1, .int .i64 a0_2, .int .i64 a0_3, .int .i64 a0_4, .int .i64 a0_5, .int .i64 a0_6, .bool a0_7, .int .i64 a0_8, .bool a0_9, .slice A0_10 l0_10.length c0_10, .slice A0_11 l0_11.length c0_11]) (t := 51) ?hr ?_; (case hd => rfl); (case hg => rfl); (case hr => first | (go_simp; done) | (go_simp; rfl)); intro gb177 hg w3 hbox hb; have n0_ := Aside0.mk (below_step wB hb); have n1_ := Aside0.mk (hbox); have n2_ := Aside0.mk ((by rw [hg]; exact (below_size wB) : w.heap.size ≤ gb177)); have n3_ := Aside0.mk ((by rw [hg]; exact (below_size wB) : w.heap.size ≤ gb177)); clear HB; have HB := n0_; have BK177 := n1_; have GW177 := n2_; have GE177 := n3_; clear n0_ n1_ n2_ n3_; clear hb hbox hg) | ((with_reducible refine gate_dst (N := 5) rfl ?_); refine Kd.R_lit (Kd.int .u8) _ 5 ?hg (N := 5) ?hd (xs := ([] : List Int)) (inner := []) (ok := fun _ => True) (okp := fun _ => True) ?hr ?hp (fun _ hk => hk) trivial (Below.refl _ _) (Nat.le_refl _) (by simp) ?_; (case hd => rfl); (case hg => rfl); (case hr => first | (go_simp; done) | (go_simp; rfl)); (case hp => exact (Reps.none _ _)); intro v179 w4 ho5 hb hg_ hnew_; clear hg_ hnew_; (first | rw [← Ny178.out] at ho5 | (simp only [Int.reduceToNat] at ho5; rw [← Ny178.out] at ho5)); have n0_ := Aside0.mk (Kd.R_lower ho5 (below_size wB)); have n1_ := Aside0.mk (blk_below (Bh BK177) hb); have n2_ := Aside0.mk (below_step wB hb); clear BK177; clear HB; have HO180 := n0_; have BK177 := n1_; have HB := n2_; clear n0_ n1_ n2_; clear hb ho5; obtain ⟨⟨hcz6_0, hcz6_1, hcz6_2, hcz6_3, hcz6_4, hcz6_5, hcz6_6, hcz6_7, hcz6_8, hcz6_9, hcz6_10, hcz6_11⟩, hfz6_0, hfz6_1, hfz6_2, hfz6_3, hfz6_4, hfz6_5, hfz6_6, hfz6_7, hfz6_8, hfz6_9, hfz6_10, hfz6_11⟩ := cells12 BK177.out))
 (try simp only [Act.put, List.setIfInBounds_toArray, List.set_cons_zero, List.set_cons_succ])
 go_cut [3] (fun v3 wc => ∃ (kq : Nat) (x3_1 : List Int), Aside0 (spec_l11Options.j0 kq x3_1 a0_0 a0_1 a0_2 a0_3 a0_4 a0_5 a0_6 a0_7 a0_8 a0_9 l0_10 l0_11 = some r) ∧ Aside0 (kq ≤ k) ∧ Aside0 (Kd.R (Kd.int .u8) 5 wc w.heap.size (fun _ => True) v3 x3_1) ∧ Aside0 (wc.heap[gb177]? = some (.cells #[.int .i64 a0_0, .int .i64 a0_1, .int .i64 a0_2, .int .i64 a0_3, .int .i64 a0_4, .int .i64 a0_5, .int .i64 a0_6, .bool a0_7, .int .i64 a0_8, .bool a0_9, (.slice A0_10 l0_10.length c0_10), (.slice A0_11 l0_11.length c0_11)] 51 (0, 0))) ∧ Aside0 (Below w.heap.size w wc))
 case first => (
 have H := HC2.out
 clear HC2
 by_cases c7 : a0_6 = 0
 {
 rw [if_pos c7] at H
 have c7b0 : (a0_6 == 0) = true := beq_iff_eq.mpr c7
 have c7b1 : (a0_6 != 0) = false := bne_eq_false_iff_eq.mpr c7
 clear c7
 (first | rw [c7b0] | (simp only [i64_w, i32_w]; rw [c7b0]) | skip)
 have H' := Aside0.mk H
 clear H
 go_wp2
 go_meet
 case rel => exact ⟨_, (y178), H', ⟨by first | omega | exact Nat.le_refl _⟩, ⟨Rh HO180⟩, ⟨Bh BK177⟩, ⟨wB⟩⟩
 }
 {
 rw [if_neg c7] at H
 have c7b0 : (a0_6 == 0) = false := beq_eq_false_iff_ne.mpr c7
 have c7b1 : (a0_6 != 0) = true := bne_iff_ne.mpr c7
 (first | rw [c7b0] | (simp only [i64_w, i32_w]; rw [c7b0]) | skip)
 obtain ⟨y181, hy181⟩ : ∃ y_ : List Int, y_ = (([2, 4] : List Int)) := ⟨_, rfl⟩
 replace H : ((spec_l03Put.f k a0_6 2).bind fun t184 => ((spec_l01Join.f k y181 t184).bind fun t187 => (spec_l11Options.j0 k t187 a0_0 a0_1 a0_2 a0_3 a0_4 a0_5 a0_6 a0_7 a0_8 a0_9 l0_10 l0_11))) = some r := by first | (rw [hy181]; with_reducible exact H) | (have H2_ := (Option.bind_some _ _).symm.trans H; rw [hy181]; with_reducible exact H2_) | (have H2_ := (Option.bind_some _ _).symm.trans H; with_reducible exact H2_) | with_reducible exact H | (rw [hy181]; exact H) | exact H
 have Ny181 := Aside0.mk hy181
 clear hy181
 replace H := Option.bind_eq_some_iff.mp H
 obtain ⟨t184, A80, H⟩ := H
 replace H : ((spec_l01Join.f k y181 t184).bind fun t187 => (spec_l11Options.j0 k t187 a0_0 a0_1 a0_2 a0_3 a0_4 a0_5 a0_6 a0_7 a0_8 a0_9 l0_10 l0_11)) = some r := H
 have A8 := Aside0.mk A80
 clear A80
 replace H := Option.bind_eq_some_iff.mp H
 obtain ⟨t187, A90, H⟩ := H
 replace H : (spec_l11Options.j0 k t187 a0_0 a0_1 a0_2 a0_3 a0_4 a0_5 a0_6 a0_7 a0_8 a0_9 l0_10 l0_11) = some r := H
 have A9 := Aside0.mk A90
 clear A90
 have H' := Aside0.mk H
 clear H
 go_wp2_with (first | ((with_reducible refine gate_dst (N := 9) rfl ?_); refine Kd.R_lit (Kd.int .u8) _ 5 ?hg (N := 9) ?hd (xs := ([2, 4] : List Int)) (inner := [.int .u8 2, .int .u8 4]) (ok := fun _ => True) (okp := fun _ => True) ?hr ?hp (fun _ hk => hk) trivial (Below.refl _ _) (Nat.le_refl _) (by simp) ?_; (case hd => rfl); (case hg => rfl); (case hr => first | (go_simp; done) | (go_simp; rfl)); (case hp => exact (Reps.one (show Kd.M (Kd.int .u8) _ _ _ 2 [.int .u8 2] from rfl) (Reps.one (show Kd.M (Kd.int .u8) _ _ _ 4 [.int .u8 4] from rfl) (Reps.none _ _)))); intro v182 w10 ho11 hb hg_ hnew_; clear hg_ hnew_; (first | rw [← Ny181.out] at ho11 | (simp only [Int.reduceToNat] at ho11; rw [← Ny181.out] at ho11)); have n0_ := Aside0.mk (Kd.R_elder' (Rh HO180) (Kd.R_base ho11) hb); have n1_ := Aside0.mk (Kd.R_lower (Kd.R_new' ho11 (Kd.R_lt (Rh HO180))) (below_size wB)); have n2_ := Aside0.mk (blk_below (Bh BK177) hb); have n3_ := Aside0.mk (below_step wB hb); clear HO180; clear BK177; clear HB; have HO180 := n0_; have HO183 := n1_; have BK177 := n2_; have HB := n3_; clear n0_ n1_ n2_ n3_; clear hb ho11; obtain ⟨⟨hcz12_0, hcz12_1, hcz12_2, hcz12_3, hcz12_4, hcz12_5, hcz12_6, hcz12_7, hcz12_8, hcz12_9, hcz12_10, hcz12_11⟩, hfz12_0, hfz12_1, hfz12_2, hfz12_3, hfz12_4, hfz12_5, hfz12_6, hfz12_7, hfz12_8, hfz12_9, hfz12_10, hfz12_11⟩ := cells12 BK177.out) | ((with_reducible refine gate_callee (f := 124) rfl ?_); refine goesL_ (some 12) rfl rfl Try.func124 (by kernel_rfl) rfl #[.int .i64 a0_6, .int .i64 2] rfl wT ?_; (with_reducible refine (spec_l03Put.calls k a0_6 2 t184 _ A8.out).mono ?_); rintro e w13 ⟨v185, rfl, ho0, hb⟩; refine ⟨_, rfl, ?_⟩; have n0_ := Aside0.mk (Kd.R_elder' (Rh HO180) (Kd.R_base ho0) hb); have n1_ := Aside0.mk (Kd.R_elder' (Rh HO183) (Kd.R_base ho0) hb); have n2_ := Aside0.mk (Kd.R_lower (Kd.R_new' (Kd.R_new' ho0 (Kd.R_lt (Rh HO180))) (Kd.R_lt (Rh HO183))) (below_size wB)); have n3_ := Aside0.mk (blk_below (Bh BK177) hb); have n4_ := Aside0.mk (below_step wB hb); clear HO180; clear HO183; clear BK177; clear HB; have HO180 := n0_; have HO183 := n1_; have HO186 := n2_; have BK177 := n3_; have HB := n4_; clear n0_ n1_ n2_ n3_ n4_; (try clear hb); (try clear hb2); (try clear hk); (try clear hi); (try clear ho0); obtain ⟨Ao14, co14, eo14⟩ := Kd.R_slice HO183.out; subst eo14; obtain ⟨Ao15, co15, eo15⟩ := Kd.R_slice HO186.out; subst eo15) | ((with_reducible refine gate_callee (f := 119) rfl ?_); refine goesL_ (some 13) rfl rfl Try.func119 (by kernel_rfl) rfl #[.slice Ao14 y181.length co14, .slice Ao15 t184.length co15] rfl wT ?_; (with_reducible refine (spec_l01Join.calls k _ _ y181 _ _ t184 t187 _ ?side1 ?side2 ?side3 ?side4 A9.out).mono ?_); (case side1 => exact Ch HO183); (case side2 => exact (Kd.R_reads' HO183.out).2.1); (case side3 => exact Ch HO186); (case side4 => exact (Kd.R_reads' HO186.out).2.1); rintro e w16 ⟨v188, rfl, ho0, hb⟩; refine ⟨_, rfl, ?_⟩; have n0_ := Aside0.mk (Kd.R_elder' (Rh HO180) (Kd.R_base ho0) hb); have n1_ := Aside0.mk (Kd.R_elder' (Rh HO183) (Kd.R_base ho0) hb); have n2_ := Aside0.mk (Kd.R_elder' (Rh HO186) (Kd.R_base ho0) hb); have n3_ := Aside0.mk (Kd.R_lower (Kd.R_new' (Kd.R_new' (Kd.R_new' ho0 (Kd.R_lt (Rh HO180))) (Kd.R_lt (Rh HO183))) (Kd.R_lt (Rh HO186))) (below_size wB)); have n4_ := Aside0.mk (blk_below (Bh BK177) hb); have n5_ := Aside0.mk (below_step wB hb); clear HO180; clear HO183; clear HO186; clear BK177; clear HB; have HO180 := n0_; have HO183 := n1_; have HO186 := n2_; have HO189 := n3_; have BK177 := n4_; have HB := n5_; clear n0_ n1_ n2_ n3_ n4_ n5_; (try clear hb); (try clear hb2); (try clear hk); (try clear hi); (try clear ho0)))
 go_meet
 case rel => exact ⟨_, (t187), H', ⟨by first | omega | exact Nat.le_refl _⟩, ⟨Kd.R_mono (Rh HO189) (fun _ hk => trivial)⟩, ⟨Bh BK177⟩, ⟨wB⟩⟩
 }
 )
 case rest => (
 clear HC2
 try clear c1
 try clear p2
 try clear c7
 try clear c7b0
 try clear c7b1
 try clear c11
 try clear c12
 try clear hcz12_0 hcz12_1 hcz12_10 hcz12_11 hcz12_2 hcz12_3 hcz12_4 hcz12_5 hcz12_6 hcz12_7 hcz12_8 hcz12_9 hfz12_0 hfz12_1 hfz12_10 hfz12_11 hfz12_2 hfz12_3 hfz12_4 hfz12_5 hfz12_6 hfz12_7 hfz12_8 hfz12_9
 try clear hcz6_0 hcz6_1 hcz6_10 hcz6_11 hcz6_2 hcz6_3 hcz6_4 hcz6_5 hcz6_6 hcz6_7 hcz6_8 hcz6_9 hfz6_0 hfz6_1 hfz6_10 hfz6_11 hfz6_2 hfz6_3 hfz6_4 hfz6_5 hfz6_6 hfz6_7 hfz6_8 hfz6_9
 obtain ⟨kq, x3_1, HA, HJ1, HO_3, BK177, HB⟩ := hcut
 cases kq with
 | zero => exact absurd HA.out (by simp [spec_l11Options.j0])
 | succ kj1 => {
 have H := HA.out
 clear HA
 simp only [spec_l11Options.j0] at H
 have HC17 := Aside0.mk H
 clear H
 obtain ⟨⟨hcz18_0, hcz18_1, hcz18_2, hcz18_3, hcz18_4, hcz18_5, hcz18_6, hcz18_7, hcz18_8, hcz18_9, hcz18_10, hcz18_11⟩, hfz18_0, hfz18_1, hfz18_2, hfz18_3, hfz18_4, hfz18_5, hfz18_6, hfz18_7, hfz18_8, hfz18_9, hfz18_10, hfz18_11⟩ := cells12 BK177.out
 go_upto_if 15 with (fail)
 go_cut [3] (fun v3 wc => ∃ (kq : Nat) (x3_16 : List Int), Aside0 (spec_l11Options.j1 kq x3_16 a0_0 a0_1 a0_2 a0_3 a0_4 a0_5 a0_6 a0_7 a0_8 a0_9 l0_10 l0_11 = some r) ∧ Aside0 (kq ≤ kj1) ∧ Aside0 (Kd.R (Kd.int .u8) 5 wc w.heap.size (fun _ => True) v3 x3_16) ∧ Aside0 (wc.heap[gb177]? = some (.cells #[.int .i64 a0_0, .int .i64 a0_1, .int .i64 a0_2, .int .i64 a0_3, .int .i64 a0_4, .int .i64 a0_5, .int .i64 a0_6, .bool a0_7, .int .i64 a0_8, .bool a0_9, (.slice A0_10 l0_10.length c0_10), (.slice A0_11 l0_11.length c0_11)] 51 (0, 0))) ∧ Aside0 (Below w.heap.size w wc))
 case first => (
 have H := HC17.out
 clear HC17
 by_cases c19 : a0_7 = true
 {
 subst c19
 have H1 : ((spec_l01Join.f kj1 x3_1 (([1, 3, 3, (a0_8) % 256] : List Int))).bind fun t193 => (spec_l11Options.j1 kj1 t193 a0_0 a0_1 a0_2 a0_3 a0_4 a0_5 a0_6 true a0_8 a0_9 l0_10 l0_11)) = some r := by rw [if_pos rfl] at H; exact H
 clear H
 have H := H1
 clear H1
 obtain ⟨y190, hy190⟩ : ∃ y_ : List Int, y_ = (([1, 3, 3, (a0_8) % 256] : List Int)) := ⟨_, rfl⟩
 replace H : ((spec_l01Join.f kj1 x3_1 y190).bind fun t193 => (spec_l11Options.j1 kj1 t193 a0_0 a0_1 a0_2 a0_3 a0_4 a0_5 a0_6 true a0_8 a0_9 l0_10 l0_11)) = some r := by first | (rw [hy190]; with_reducible exact H) | (have H2_ := (Option.bind_some _ _).symm.trans H; rw [hy190]; with_reducible exact H2_) | (have H2_ := (Option.bind_some _ _).symm.trans H; with_reducible exact H2_) | with_reducible exact H | (rw [hy190]; exact H) | exact H
 have Ny190 := Aside0.mk hy190
 clear hy190
 replace H := Option.bind_eq_some_iff.mp H
 obtain ⟨t193, A200, H⟩ := H
 replace H : (spec_l11Options.j1 kj1 t193 a0_0 a0_1 a0_2 a0_3 a0_4 a0_5 a0_6 true a0_8 a0_9 l0_10 l0_11) = some r := H
 have A20 := Aside0.mk A200
 clear A200
 have H' := Aside0.mk H
 clear H
 obtain ⟨⟨hcz21_0, hcz21_1, hcz21_2, hcz21_3, hcz21_4, hcz21_5, hcz21_6, hcz21_7, hcz21_8, hcz21_9, hcz21_10, hcz21_11⟩, hfz21_0, hfz21_1, hfz21_2, hfz21_3, hfz21_4, hfz21_5, hfz21_6, hfz21_7, hfz21_8, hfz21_9, hfz21_10, hfz21_11⟩ := cells12 BK177.out
 go_wp2_with (first | ((with_reducible refine gate_dst (N := 20) rfl ?_); refine Kd.R_lit (Kd.int .u8) _ 5 ?hg (N := 20) ?hd (xs := ([1, 3, 3, (a0_8) % 256] : List Int)) (inner := [.int .u8 1, .int .u8 3, .int .u8 3, .int .u8 ((a0_8) % 256)]) (ok := fun _ => True) (okp := fun _ => True) ?hr ?hp (fun _ hk => hk) trivial (Below.refl _ _) (Nat.le_refl _) (by simp) ?_; (case hd => rfl); (case hg => rfl); (case hr => first | (go_simp; done) | (go_simp; rfl)); (case hp => exact (Reps.one (show Kd.M (Kd.int .u8) _ _ _ 1 [.int .u8 1] from rfl) (Reps.one (show Kd.M (Kd.int .u8) _ _ _ 3 [.int .u8 3] from rfl) (Reps.one (show Kd.M (Kd.int .u8) _ _ _ 3 [.int .u8 3] from rfl) (Reps.one (show Kd.M (Kd.int .u8) _ _ _ ((a0_8) % 256) [.int .u8 ((a0_8) % 256)] from rfl) (Reps.none _ _)))))); intro v191 w22 ho23 hb hg_ hnew_; clear hg_ hnew_; (first | rw [← Ny190.out] at ho23 | (simp only [Int.reduceToNat] at ho23; rw [← Ny190.out] at ho23)); have n0_ := Aside0.mk (Kd.R_elder' (Rh HO_3) (Kd.R_base ho23) hb); have n1_ := Aside0.mk (Kd.R_lower (Kd.R_new' ho23 (Kd.R_lt (Rh HO_3))) (below_size wB)); have n2_ := Aside0.mk (blk_below (Bh BK177) hb); have n3_ := Aside0.mk (below_step wB hb); clear HO_3; clear BK177; clear HB; have HO_3 := n0_; have HO192 := n1_; have BK177 := n2_; have HB := n3_; clear n0_ n1_ n2_ n3_; clear hb ho23; obtain ⟨Ao24, co24, eo24⟩ := Kd.R_slice HO_3.out; subst eo24; obtain ⟨Ao25, co25, eo25⟩ := Kd.R_slice HO192.out; subst eo25) | ((with_reducible refine gate_callee (f := 119) rfl ?_); refine goesL_ (some 21) rfl rfl Try.func119 (by kernel_rfl) rfl #[.slice Ao24 x3_1.length co24, .slice Ao25 y190.length co25] rfl wT ?_; (with_reducible refine (spec_l01Join.calls kj1 _ _ x3_1 _ _ y190 t193 _ ?side1 ?side2 ?side3 ?side4 A20.out).mono ?_); (case side1 => exact Ch HO_3); (case side2 => exact (Kd.R_reads' HO_3.out).2.1); (case side3 => exact Ch HO192); (case side4 => exact (Kd.R_reads' HO192.out).2.1); rintro e w26 ⟨v194, rfl, ho0, hb⟩; refine ⟨_, rfl, ?_⟩; have n0_ := Aside0.mk (Kd.R_elder' (Rh HO_3) (Kd.R_base ho0) hb); have n1_ := Aside0.mk (Kd.R_elder' (Rh HO192) (Kd.R_base ho0) hb); have n2_ := Aside0.mk (Kd.R_lower (Kd.R_new' (Kd.R_new' ho0 (Kd.R_lt (Rh HO_3))) (Kd.R_lt (Rh HO192))) (below_size wB)); have n3_ := Aside0.mk (blk_below (Bh BK177) hb); have n4_ := Aside0.mk (below_step wB hb); clear HO_3; clear HO192; clear BK177; clear HB; have HO_3 := n0_; have HO192 := n1_; have HO195 := n2_; have BK177 := n3_; have HB := n4_; clear n0_ n1_ n2_ n3_ n4_; (try clear hb); (try clear hb2); (try clear hk); (try clear hi); (try clear ho0)))
 go_meet
 case rel => exact ⟨_, (t193), H', ⟨by have := HJ1.out; first | omega | exact Nat.le_refl _⟩, ⟨Kd.R_mono (Rh HO195) (fun _ hk => trivial)⟩, ⟨Bh BK177⟩, ⟨wB⟩⟩
 }
 {
 replace c19 := Bool.eq_false_iff.mpr c19
 subst c19
 have H1 : (spec_l11Options.j1 kj1 x3_1 a0_0 a0_1 a0_2 a0_3 a0_4 a0_5 a0_6 false a0_8 a0_9 l0_10 l0_11) = some r := by rw [if_neg (show ¬ (false = true) by decide)] at H; exact H
 clear H
 have H := H1
 clear H1
 have H' := Aside0.mk H
 clear H
 go_wp2
 go_meet
 case rel => exact ⟨_, (x3_1), H', ⟨by have := HJ1.out; first | omega | exact Nat.le_refl _⟩, ⟨Rh HO_3⟩, ⟨Bh BK177⟩, ⟨wB⟩⟩
 }
 )
 case rest => (
 clear HC17
 try clear c1
 try clear p2
 try clear c7
 try clear c7b0
 try clear c7b1
 try clear c11
 try clear c12
 try clear c19
 try clear hcz12_0 hcz12_1 hcz12_10 hcz12_11 hcz12_2 hcz12_3 hcz12_4 hcz12_5 hcz12_6 hcz12_7 hcz12_8 hcz12_9 hfz12_0 hfz12_1 hfz12_10 hfz12_11 hfz12_2 hfz12_3 hfz12_4 hfz12_5 hfz12_6 hfz12_7 hfz12_8 hfz12_9
 try clear hcz18_0 hcz18_1 hcz18_10 hcz18_11 hcz18_2 hcz18_3 hcz18_4 hcz18_5 hcz18_6 hcz18_7 hcz18_8 hcz18_9 hfz18_0 hfz18_1 hfz18_10 hfz18_11 hfz18_2 hfz18_3 hfz18_4 hfz18_5 hfz18_6 hfz18_7 hfz18_8 hfz18_9
 try clear hcz21_0 hcz21_1 hcz21_10 hcz21_11 hcz21_2 hcz21_3 hcz21_4 hcz21_5 hcz21_6 hcz21_7 hcz21_8 hcz21_9 hfz21_0 hfz21_1 hfz21_10 hfz21_11 hfz21_2 hfz21_3 hfz21_4 hfz21_5 hfz21_6 hfz21_7 hfz21_8 hfz21_9
 try clear hcz6_0 hcz6_1 hcz6_10 hcz6_11 hcz6_2 hcz6_3 hcz6_4 hcz6_5 hcz6_6 hcz6_7 hcz6_8 hcz6_9 hfz6_0 hfz6_1 hfz6_10 hfz6_11 hfz6_2 hfz6_3 hfz6_4 hfz6_5 hfz6_6 hfz6_7 hfz6_8 hfz6_9
 try clear p2
 obtain ⟨kq, x3_16, HA, HJ16, HO_3, BK177, HB⟩ := hcut
 cases kq with
 | zero => exact absurd HA.out (by simp [spec_l11Options.j1])
 | succ kj16 => {
 have H := HA.out
 clear HA
 simp only [spec_l11Options.j1] at H
 have HC27 := Aside0.mk H
 clear H
 obtain ⟨⟨hcz28_0, hcz28_1, hcz28_2, hcz28_3, hcz28_4, hcz28_5, hcz28_6, hcz28_7, hcz28_8, hcz28_9, hcz28_10, hcz28_11⟩, hfz28_0, hfz28_1, hfz28_2, hfz28_3, hfz28_4, hfz28_5, hfz28_6, hfz28_7, hfz28_8, hfz28_9, hfz28_10, hfz28_11⟩ := cells12 BK177.out
 go_upto_if 23 with (fail)
 go_cut [3] (fun v3 wc => ∃ (kq : Nat) (x3_26 : List Int), Aside0 (spec_l11Options.j2 kq x3_26 a0_0 a0_1 a0_2 a0_3 a0_4 a0_5 a0_6 a0_7 a0_8 a0_9 l0_10 l0_11 = some r) ∧ Aside0 (kq ≤ kj16) ∧ Aside0 (Kd.R (Kd.int .u8) 5 wc w.heap.size (fun _ => True) v3 x3_26) ∧ Aside0 (wc.heap[gb177]? = some (.cells #[.int .i64 a0_0, .int .i64 a0_1, .int .i64 a0_2, .int .i64 a0_3, .int .i64 a0_4, .int .i64 a0_5, .int .i64 a0_6, .bool a0_7, .int .i64 a0_8, .bool a0_9, (.slice A0_10 l0_10.length c0_10), (.slice A0_11 l0_11.length c0_11)] 51 (0, 0))) ∧ Aside0 (Below w.heap.size w wc))
 case first => (
 have H := HC27.out
 clear HC27
 by_cases c29 : a0_9 = true
 {
 subst c29
 have H1 : ((spec_l01Join.f kj16 x3_16 (([1, 1, 4, 2] : List Int))).bind fun t199 => (spec_l11Options.j2 kj16 t199 a0_0 a0_1 a0_2 a0_3 a0_4 a0_5 a0_6 a0_7 a0_8 true l0_10 l0_11)) = some r := by rw [if_pos rfl] at H; exact H
 clear H
 have H := H1
 clear H1
 obtain ⟨y196, hy196⟩ : ∃ y_ : List Int, y_ = (([1, 1, 4, 2] : List Int)) := ⟨_, rfl⟩
 replace H : ((spec_l01Join.f kj16 x3_16 y196).bind fun t199 => (spec_l11Options.j2 kj16 t199 a0_0 a0_1 a0_2 a0_3 a0_4 a0_5 a0_6 a0_7 a0_8 true l0_10 l0_11)) = some r := by first | (rw [hy196]; with_reducible exact H) | (have H2_ := (Option.bind_some _ _).symm.trans H; rw [hy196]; with_reducible exact H2_) | (have H2_ := (Option.bind_some _ _).symm.trans H; with_reducible exact H2_) | with_reducible exact H | (rw [hy196]; exact H) | exact H
 have Ny196 := Aside0.mk hy196
 clear hy196
 replace H := Option.bind_eq_some_iff.mp H
 obtain ⟨t199, A300, H⟩ := H
 replace H : (spec_l11Options.j2 kj16 t199 a0_0 a0_1 a0_2 a0_3 a0_4 a0_5 a0_6 a0_7 a0_8 true l0_10 l0_11) = some r := H
 have A30 := Aside0.mk A300
 clear A300
 have H' := Aside0.mk H
 clear H
 go_wp2_with (first | ((with_reducible refine gate_dst (N := 25) rfl ?_); refine Kd.R_lit (Kd.int .u8) _ 5 ?hg (N := 25) ?hd (xs := ([1, 1, 4, 2] : List Int)) (inner := [.int .u8 1, .int .u8 1, .int .u8 4, .int .u8 2]) (ok := fun _ => True) (okp := fun _ => True) ?hr ?hp (fun _ hk => hk) trivial (Below.refl _ _) (Nat.le_refl _) (by simp) ?_; (case hd => rfl); (case hg => rfl); (case hr => first | (go_simp; done) | (go_simp; rfl)); (case hp => exact (Reps.one (show Kd.M (Kd.int .u8) _ _ _ 1 [.int .u8 1] from rfl) (Reps.one (show Kd.M (Kd.int .u8) _ _ _ 1 [.int .u8 1] from rfl) (Reps.one (show Kd.M (Kd.int .u8) _ _ _ 4 [.int .u8 4] from rfl) (Reps.one (show Kd.M (Kd.int .u8) _ _ _ 2 [.int .u8 2] from rfl) (Reps.none _ _)))))); intro v197 w31 ho32 hb hg_ hnew_; clear hg_ hnew_; (first | rw [← Ny196.out] at ho32 | (simp only [Int.reduceToNat] at ho32; rw [← Ny196.out] at ho32)); have n0_ := Aside0.mk (Kd.R_elder' (Rh HO_3) (Kd.R_base ho32) hb); have n1_ := Aside0.mk (Kd.R_lower (Kd.R_new' ho32 (Kd.R_lt (Rh HO_3))) (below_size wB)); have n2_ := Aside0.mk (blk_below (Bh BK177) hb); have n3_ := Aside0.mk (below_step wB hb); clear HO_3; clear BK177; clear HB; have HO_3 := n0_; have HO198 := n1_; have BK177 := n2_; have HB := n3_; clear n0_ n1_ n2_ n3_; clear hb ho32; obtain ⟨Ao33, co33, eo33⟩ := Kd.R_slice HO_3.out; subst eo33; obtain ⟨Ao34, co34, eo34⟩ := Kd.R_slice HO198.out; subst eo34) | ((with_reducible refine gate_callee (f := 119) rfl ?_); refine goesL_ (some 26) rfl rfl Try.func119 (by kernel_rfl) rfl #[.slice Ao33 x3_16.length co33, .slice Ao34 y196.length co34] rfl wT ?_; (with_reducible refine (spec_l01Join.calls kj16 _ _ x3_16 _ _ y196 t199 _ ?side1 ?side2 ?side3 ?side4 A30.out).mono ?_); (case side1 => exact Ch HO_3); (case side2 => exact (Kd.R_reads' HO_3.out).2.1); (case side3 => exact Ch HO198); (case side4 => exact (Kd.R_reads' HO198.out).2.1); rintro e w35 ⟨v200, rfl, ho0, hb⟩; refine ⟨_, rfl, ?_⟩; have n0_ := Aside0.mk (Kd.R_elder' (Rh HO_3) (Kd.R_base ho0) hb); have n1_ := Aside0.mk (Kd.R_elder' (Rh HO198) (Kd.R_base ho0) hb); have n2_ := Aside0.mk (Kd.R_lower (Kd.R_new' (Kd.R_new' ho0 (Kd.R_lt (Rh HO_3))) (Kd.R_lt (Rh HO198))) (below_size wB)); have n3_ := Aside0.mk (blk_below (Bh BK177) hb); have n4_ := Aside0.mk (below_step wB hb); clear HO_3; clear HO198; clear BK177; clear HB; have HO_3 := n0_; have HO198 := n1_; have HO201 := n2_; have BK177 := n3_; have HB := n4_; clear n0_ n1_ n2_ n3_ n4_; (try clear hb); (try clear hb2); (try clear hk); (try clear hi); (try clear ho0)))
 go_meet
 case rel => exact ⟨_, (t199), H', ⟨by have := HJ1.out; have := HJ16.out; first | omega | exact Nat.le_refl _⟩, ⟨Kd.R_mono (Rh HO201) (fun _ hk => trivial)⟩, ⟨Bh BK177⟩, ⟨wB⟩⟩
 }
 {
 replace c29 := Bool.eq_false_iff.mpr c29
 subst c29
 have H1 : (spec_l11Options.j2 kj16 x3_16 a0_0 a0_1 a0_2 a0_3 a0_4 a0_5 a0_6 a0_7 a0_8 false l0_10 l0_11) = some r := by rw [if_neg (show ¬ (false = true) by decide)] at H; exact H
 clear H
 have H := H1
 clear H1
 have H' := Aside0.mk H
 clear H
 go_wp2
 go_meet
 case rel => exact ⟨_, (x3_16), H', ⟨by have := HJ1.out; have := HJ16.out; first | omega | exact Nat.le_refl _⟩, ⟨Rh HO_3⟩, ⟨Bh BK177⟩, ⟨wB⟩⟩
 }
 )
 case rest => (
 clear HC27
 try clear c1
 try clear c2
 try clear p2
 try clear c7
 try clear c7b0
 try clear c7b1
 try clear c11
 try clear c12
 try clear c19
 try clear c29
 try clear hcz12_0 hcz12_1 hcz12_10 hcz12_11 hcz12_2 hcz12_3 hcz12_4 hcz12_5 hcz12_6 hcz12_7 hcz12_8 hcz12_9 hfz12_0 hfz12_1 hfz12_10 hfz12_11 hfz12_2 hfz12_3 hfz12_4 hfz12_5 hfz12_6 hfz12_7 hfz12_8 hfz12_9
 try clear hcz18_0 hcz18_1 hcz18_10 hcz18_11 hcz18_2 hcz18_3 hcz18_4 hcz18_5 hcz18_6 hcz18_7 hcz18_8 hcz18_9 hfz18_0 hfz18_1 hfz18_10 hfz18_11 hfz18_2 hfz18_3 hfz18_4 hfz18_5 hfz18_6 hfz18_7 hfz18_8 hfz18_9
 try clear hcz21_0 hcz21_1 hcz21_10 hcz21_11 hcz21_2 hcz21_3 hcz21_4 hcz21_5 hcz21_6 hcz21_7 hcz21_8 hcz21_9 hfz21_0 hfz21_1 hfz21_10 hfz21_11 hfz21_2 hfz21_3 hfz21_4 hfz21_5 hfz21_6 hfz21_7 hfz21_8 hfz21_9
 try clear hcz28_0 hcz28_1 hcz28_10 hcz28_11 hcz28_2 hcz28_3 hcz28_4 hcz28_5 hcz28_6 hcz28_7 hcz28_8 hcz28_9 hfz28_0 hfz28_1 hfz28_10 hfz28_11 hfz28_2 hfz28_3 hfz28_4 hfz28_5 hfz28_6 hfz28_7 hfz28_8 hfz28_9
 try clear hcz6_0 hcz6_1 hcz6_10 hcz6_11 hcz6_2 hcz6_3 hcz6_4 hcz6_5 hcz6_6 hcz6_7 hcz6_8 hcz6_9 hfz6_0 hfz6_1 hfz6_10 hfz6_11 hfz6_2 hfz6_3 hfz6_4 hfz6_5 hfz6_6 hfz6_7 hfz6_8 hfz6_9
 try clear p2
 obtain ⟨kq, x3_26, HA, HJ26, HO_3, BK177, HB⟩ := hcut
 cases kq with
 | zero => exact absurd HA.out (by simp [spec_l11Options.j2])
 | succ kj26 => {
 have H := HA.out
 clear HA
 simp only [spec_l11Options.j2] at H
 have HC36 := Aside0.mk H
 clear H
 obtain ⟨⟨hcz37_0, hcz37_1, hcz37_2, hcz37_3, hcz37_4, hcz37_5, hcz37_6, hcz37_7, hcz37_8, hcz37_9, hcz37_10, hcz37_11⟩, hfz37_0, hfz37_1, hfz37_2, hfz37_3, hfz37_4, hfz37_5, hfz37_6, hfz37_7, hfz37_8, hfz37_9, hfz37_10, hfz37_11⟩ := cells12 BK177.out
 go_upto_if 30 with (fail)
 go_cut [3] (fun v3 wc => ∃ (kq : Nat) (x3_35 : List Int), Aside0 (spec_l11Options.j3 kq x3_35 a0_0 a0_1 a0_2 a0_3 a0_4 a0_5 a0_6 a0_7 a0_8 a0_9 l0_10 l0_11 = some r) ∧ Aside0 (kq ≤ kj26) ∧ Aside0 (Kd.R (Kd.int .u8) 5 wc w.heap.size (fun _ => True) v3 x3_35) ∧ Aside0 (wc.heap[gb177]? = some (.cells #[.int .i64 a0_0, .int .i64 a0_1, .int .i64 a0_2, .int .i64 a0_3, .int .i64 a0_4, .int .i64 a0_5, .int .i64 a0_6, .bool a0_7, .int .i64 a0_8, .bool a0_9, (.slice A0_10 l0_10.length c0_10), (.slice A0_11 l0_11.length c0_11)] 51 (0, 0))) ∧ Aside0 (Below w.heap.size w wc))
 case first => (
 have H := HC36.out
 clear HC36
 by_cases c38 : (l0_10.length : Int) > 0
 {
 rw [if_pos c38] at H
 have c38b0 : decide (0 < (l0_10.length : Int)) = true := decide_eq_true c38
 have c38b1 : decide (0 < l0_10.length) = true := decide_eq_true (by omega)
 clear c38
 (first | rw [c38b0] | rw [c38b1] | (simp only [i64_w, i32_w]; rw [c38b0]) | skip)
 obtain ⟨y202, hy202⟩ : ∃ y_ : List Int, y_ = (([1, 1, 5, (wrap64 (2 + (wrap64 (8 * (l0_10.length : Int))))) % 256] : List Int)) := ⟨_, rfl⟩
 replace H : ((spec_l01Join.f kj26 x3_26 y202).bind fun t205 => (spec_l11Options.j3 kj26 t205 a0_0 a0_1 a0_2 a0_3 a0_4 a0_5 a0_6 a0_7 a0_8 a0_9 l0_10 l0_11)) = some r := by first | (rw [hy202]; with_reducible exact H) | (have H2_ := (Option.bind_some _ _).symm.trans H; rw [hy202]; with_reducible exact H2_) | (have H2_ := (Option.bind_some _ _).symm.trans H; with_reducible exact H2_) | with_reducible exact H | (rw [hy202]; exact H) | exact H
 have Ny202 := Aside0.mk hy202
 clear hy202
 replace H := Option.bind_eq_some_iff.mp H
 obtain ⟨t205, A390, H⟩ := H
 replace H : (spec_l11Options.j3 kj26 t205 a0_0 a0_1 a0_2 a0_3 a0_4 a0_5 a0_6 a0_7 a0_8 a0_9 l0_10 l0_11) = some r := H
 have A39 := Aside0.mk A390
 clear A390
 have H' := Aside0.mk H
 clear H
 obtain ⟨⟨hcz40_0, hcz40_1, hcz40_2, hcz40_3, hcz40_4, hcz40_5, hcz40_6, hcz40_7, hcz40_8, hcz40_9, hcz40_10, hcz40_11⟩, hfz40_0, hfz40_1, hfz40_2, hfz40_3, hfz40_4, hfz40_5, hfz40_6, hfz40_7, hfz40_8, hfz40_9, hfz40_10, hfz40_11⟩ := cells12 BK177.out
 go_wp2_with (first | ((with_reducible refine gate_dst (N := 38) rfl ?_); refine Kd.R_lit (Kd.int .u8) _ 5 ?hg (N := 38) ?hd (xs := ([1, 1, 5, (wrap64 (2 + (wrap64 (8 * (l0_10.length : Int))))) % 256] : List Int)) (inner := [.int .u8 1, .int .u8 1, .int .u8 5, .int .u8 ((wrap64 (2 + (wrap64 (8 * (l0_10.length : Int))))) % 256)]) (ok := fun _ => True) (okp := fun _ => True) ?hr ?hp (fun _ hk => hk) trivial (Below.refl _ _) (Nat.le_refl _) (by simp) ?_; (case hd => rfl); (case hg => rfl); (case hr => first | (go_simp; done) | (go_simp; rfl)); (case hp => exact (Reps.one (show Kd.M (Kd.int .u8) _ _ _ 1 [.int .u8 1] from rfl) (Reps.one (show Kd.M (Kd.int .u8) _ _ _ 1 [.int .u8 1] from rfl) (Reps.one (show Kd.M (Kd.int .u8) _ _ _ 5 [.int .u8 5] from rfl) (Reps.one (show Kd.M (Kd.int .u8) _ _ _ ((wrap64 (2 + (wrap64 (8 * (l0_10.length : Int))))) % 256) [.int .u8 ((wrap64 (2 + (wrap64 (8 * (l0_10.length : Int))))) % 256)] from rfl) (Reps.none _ _)))))); intro v203 w41 ho42 hb hg_ hnew_; clear hg_ hnew_; (first | rw [← Ny202.out] at ho42 | (simp only [Int.reduceToNat] at ho42; rw [← Ny202.out] at ho42)); have n0_ := Aside0.mk (Kd.R_elder' (Rh HO_3) (Kd.R_base ho42) hb); have n1_ := Aside0.mk (Kd.R_lower (Kd.R_new' ho42 (Kd.R_lt (Rh HO_3))) (below_size wB)); have n2_ := Aside0.mk (blk_below (Bh BK177) hb); have n3_ := Aside0.mk (below_step wB hb); clear HO_3; clear BK177; clear HB; have HO_3 := n0_; have HO204 := n1_; have BK177 := n2_; have HB := n3_; clear n0_ n1_ n2_ n3_; clear hb ho42; obtain ⟨Ao43, co43, eo43⟩ := Kd.R_slice HO_3.out; subst eo43; obtain ⟨Ao44, co44, eo44⟩ := Kd.R_slice HO204.out; subst eo44) | ((with_reducible refine gate_callee (f := 119) rfl ?_); refine goesL_ (some 39) rfl rfl Try.func119 (by kernel_rfl) rfl #[.slice Ao43 x3_26.length co43, .slice Ao44 y202.length co44] rfl wT ?_; (with_reducible refine (spec_l01Join.calls kj26 _ _ x3_26 _ _ y202 t205 _ ?side1 ?side2 ?side3 ?side4 A39.out).mono ?_); (case side1 => exact Ch HO_3); (case side2 => exact (Kd.R_reads' HO_3.out).2.1); (case side3 => exact Ch HO204); (case side4 => exact (Kd.R_reads' HO204.out).2.1); rintro e w45 ⟨v206, rfl, ho0, hb⟩; refine ⟨_, rfl, ?_⟩; have n0_ := Aside0.mk (Kd.R_elder' (Rh HO_3) (Kd.R_base ho0) hb); have n1_ := Aside0.mk (Kd.R_elder' (Rh HO204) (Kd.R_base ho0) hb); have n2_ := Aside0.mk (Kd.R_lower (Kd.R_new' (Kd.R_new' ho0 (Kd.R_lt (Rh HO_3))) (Kd.R_lt (Rh HO204))) (below_size wB)); have n3_ := Aside0.mk (blk_below (Bh BK177) hb); have n4_ := Aside0.mk (below_step wB hb); clear HO_3; clear HO204; clear BK177; clear HB; have HO_3 := n0_; have HO204 := n1_; have HO207 := n2_; have BK177 := n3_; have HB := n4_; clear n0_ n1_ n2_ n3_ n4_; (try clear hb); (try clear hb2); (try clear hk); (try clear hi); (try clear ho0)))
 go_meet
 case rel => exact ⟨_, (t205), H', ⟨by have := HJ1.out; have := HJ16.out; have := HJ26.out; first | omega | exact Nat.le_refl _⟩, ⟨Kd.R_mono (Rh HO207) (fun _ hk => trivial)⟩, ⟨Bh BK177⟩, ⟨wB⟩⟩
 }
 {
 rw [if_neg c38] at H
 have c38b0 : decide (0 < (l0_10.length : Int)) = false := decide_eq_false c38
 have c38b1 : decide (0 < l0_10.length) = false := decide_eq_false (by omega)
 clear c38
 (first | rw [c38b0] | rw [c38b1] | (simp only [i64_w, i32_w]; rw [c38b0]) | skip)
 have H' := Aside0.mk H
 clear H
 go_wp2
 go_meet
 case rel => exact ⟨_, (x3_26), H', ⟨by have := HJ1.out; have := HJ16.out; have := HJ26.out; first | omega | exact Nat.le_refl _⟩, ⟨Rh HO_3⟩, ⟨Bh BK177⟩, ⟨wB⟩⟩
 }
 )
 case rest => (
 clear HC36
 try clear c1
 try clear c2
 try clear p2
 try clear c3
 try clear p6
 try clear c7
 try clear c7b0
 try clear c7b1
 try clear c11
 try clear c12
 try clear c19
 try clear c29
 try clear c38
 try clear c38b0
 try clear c38b1
 try clear hcz12_0 hcz12_1 hcz12_10 hcz12_11 hcz12_2 hcz12_3 hcz12_4 hcz12_5 hcz12_6 hcz12_7 hcz12_8 hcz12_9 hfz12_0 hfz12_1 hfz12_10 hfz12_11 hfz12_2 hfz12_3 hfz12_4 hfz12_5 hfz12_6 hfz12_7 hfz12_8 hfz12_9
 try clear hcz18_0 hcz18_1 hcz18_10 hcz18_11 hcz18_2 hcz18_3 hcz18_4 hcz18_5 hcz18_6 hcz18_7 hcz18_8 hcz18_9 hfz18_0 hfz18_1 hfz18_10 hfz18_11 hfz18_2 hfz18_3 hfz18_4 hfz18_5 hfz18_6 hfz18_7 hfz18_8 hfz18_9
 try clear hcz21_0 hcz21_1 hcz21_10 hcz21_11 hcz21_2 hcz21_3 hcz21_4 hcz21_5 hcz21_6 hcz21_7 hcz21_8 hcz21_9 hfz21_0 hfz21_1 hfz21_10 hfz21_11 hfz21_2 hfz21_3 hfz21_4 hfz21_5 hfz21_6 hfz21_7 hfz21_8 hfz21_9
 try clear hcz28_0 hcz28_1 hcz28_10 hcz28_11 hcz28_2 hcz28_3 hcz28_4 hcz28_5 hcz28_6 hcz28_7 hcz28_8 hcz28_9 hfz28_0 hfz28_1 hfz28_10 hfz28_11 hfz28_2 hfz28_3 hfz28_4 hfz28_5 hfz28_6 hfz28_7 hfz28_8 hfz28_9
 try clear hcz37_0 hcz37_1 hcz37_10 hcz37_11 hcz37_2 hcz37_3 hcz37_4 hcz37_5 hcz37_6 hcz37_7 hcz37_8 hcz37_9 hfz37_0 hfz37_1 hfz37_10 hfz37_11 hfz37_2 hfz37_3 hfz37_4 hfz37_5 hfz37_6 hfz37_7 hfz37_8 hfz37_9
 try clear hcz40_0 hcz40_1 hcz40_10 hcz40_11 hcz40_2 hcz40_3 hcz40_4 hcz40_5 hcz40_6 hcz40_7 hcz40_8 hcz40_9 hfz40_0 hfz40_1 hfz40_10 hfz40_11 hfz40_2 hfz40_3 hfz40_4 hfz40_5 hfz40_6 hfz40_7 hfz40_8 hfz40_9
 try clear hcz6_0 hcz6_1 hcz6_10 hcz6_11 hcz6_2 hcz6_3 hcz6_4 hcz6_5 hcz6_6 hcz6_7 hcz6_8 hcz6_9 hfz6_0 hfz6_1 hfz6_10 hfz6_11 hfz6_2 hfz6_3 hfz6_4 hfz6_5 hfz6_6 hfz6_7 hfz6_8 hfz6_9
 try clear p2
 obtain ⟨kq, x3_35, HA, HJ35, HO_3, BK177, HB⟩ := hcut
 cases kq with
 | zero => exact absurd HA.out (by simp [spec_l11Options.j3])
 | succ kj35 => {
 have H := HA.out
 clear HA
 simp only [spec_l11Options.j3] at H
 have H' := Aside0.mk H
 clear H
 go_wp2
 go_loopg [3, 4] kj35 (fun kq v3 v4 w' => ∃ (x3_5 : List Int) (x4_5 : Int), v4 = .int .i64 x4_5 ∧ Aside0 (spec_l11Options.l0 kq x3_5 x4_5 a0_0 a0_1 a0_2 a0_3 a0_4 a0_5 a0_6 a0_7 a0_8 a0_9 l0_10 l0_11 = some r) ∧ Aside0 (kq ≤ kj35) ∧ Aside0 (Kd.R (Kd.int .u8) 5 w' w.heap.size (fun _ => True) v3 x3_5) ∧ Aside0 (w'.heap[gb177]? = some (.cells #[.int .i64 a0_0, .int .i64 a0_1, .int .i64 a0_2, .int .i64 a0_3, .int .i64 a0_4, .int .i64 a0_5, .int .i64 a0_6, .bool a0_7, .int .i64 a0_8, .bool a0_9, (.slice A0_10 l0_10.length c0_10), (.slice A0_11 l0_11.length c0_11)] 51 (0, 0))) ∧ Aside0 (Below w.heap.size w w'))
 case atStart => exact ⟨(x3_35), (0), (by first | rfl | (simp; done) | (simp [*]; done)), H', ⟨Nat.le_refl _⟩, ⟨Rh HO_3⟩, ⟨Bh BK177⟩, ⟨wB⟩⟩
 case round => (
 clear H'
 try clear c1
 try clear c2
 try clear p2
 try clear c3
 try clear p6
 try clear c7
 try clear c7b0
 try clear c7b1
 try clear c11
 try clear c12
 try clear c19
 try clear c29
 try clear c38
 try clear c38b0
 try clear c38b1
 try clear hcz12_0 hcz12_1 hcz12_10 hcz12_11 hcz12_2 hcz12_3 hcz12_4 hcz12_5 hcz12_6 hcz12_7 hcz12_8 hcz12_9 hfz12_0 hfz12_1 hfz12_10 hfz12_11 hfz12_2 hfz12_3 hfz12_4 hfz12_5 hfz12_6 hfz12_7 hfz12_8 hfz12_9
 try clear hcz18_0 hcz18_1 hcz18_10 hcz18_11 hcz18_2 hcz18_3 hcz18_4 hcz18_5 hcz18_6 hcz18_7 hcz18_8 hcz18_9 hfz18_0 hfz18_1 hfz18_10 hfz18_11 hfz18_2 hfz18_3 hfz18_4 hfz18_5 hfz18_6 hfz18_7 hfz18_8 hfz18_9
 try clear hcz21_0 hcz21_1 hcz21_10 hcz21_11 hcz21_2 hcz21_3 hcz21_4 hcz21_5 hcz21_6 hcz21_7 hcz21_8 hcz21_9 hfz21_0 hfz21_1 hfz21_10 hfz21_11 hfz21_2 hfz21_3 hfz21_4 hfz21_5 hfz21_6 hfz21_7 hfz21_8 hfz21_9
 try clear hcz28_0 hcz28_1 hcz28_10 hcz28_11 hcz28_2 hcz28_3 hcz28_4 hcz28_5 hcz28_6 hcz28_7 hcz28_8 hcz28_9 hfz28_0 hfz28_1 hfz28_10 hfz28_11 hfz28_2 hfz28_3 hfz28_4 hfz28_5 hfz28_6 hfz28_7 hfz28_8 hfz28_9
 try clear hcz37_0 hcz37_1 hcz37_10 hcz37_11 hcz37_2 hcz37_3 hcz37_4 hcz37_5 hcz37_6 hcz37_7 hcz37_8 hcz37_9 hfz37_0 hfz37_1 hfz37_10 hfz37_11 hfz37_2 hfz37_3 hfz37_4 hfz37_5 hfz37_6 hfz37_7 hfz37_8 hfz37_9
 try clear hcz40_0 hcz40_1 hcz40_10 hcz40_11 hcz40_2 hcz40_3 hcz40_4 hcz40_5 hcz40_6 hcz40_7 hcz40_8 hcz40_9 hfz40_0 hfz40_1 hfz40_10 hfz40_11 hfz40_2 hfz40_3 hfz40_4 hfz40_5 hfz40_6 hfz40_7 hfz40_8 hfz40_9
 try clear hcz6_0 hcz6_1 hcz6_10 hcz6_11 hcz6_2 hcz6_3 hcz6_4 hcz6_5 hcz6_6 hcz6_7 hcz6_8 hcz6_9 hfz6_0 hfz6_1 hfz6_10 hfz6_11 hfz6_2 hfz6_3 hfz6_4 hfz6_5 hfz6_6 hfz6_7 hfz6_8 hfz6_9
 try clear p2
 try clear p6
 obtain ⟨x3_5, x4_5, rfl, HA, HK5, HO_3, BK177, HB⟩ := hrel
 cases gk with
 | zero => exact absurd HA.out (by simp [spec_l11Options.l0])
 | succ k5 => {
 have H := HA.out
 clear HA
 simp only [spec_l11Options.l0] at H
 by_cases c46 : x4_5 < (l0_10.length : Int)
 {
 rw [if_pos c46] at H
 have c46b0 : decide (x4_5 < (l0_10.length : Int)) = true := decide_eq_true c46
 clear c46
 by_cases c47 : 0 ≤ x4_5
 {
 rw [if_pos c47] at H
 have c47b0 : decide (0 ≤ x4_5) = true := decide_eq_true c47
 clear c47
 replace H := Option.bind_eq_some_iff.mp H
 obtain ⟨t209, A480, H⟩ := H
 replace H : ((spec_l01Join.f k5 x3_5 t209).bind fun t212 => ((spec_l03Put.f k5 ((rd_T157 l0_10 x4_5).f1) 4).bind fun t216 => ((spec_l01Join.f k5 t212 t216).bind fun t219 => (spec_l11Options.l0 k5 t219 (wrap64 (x4_5 + 1)) a0_0 a0_1 a0_2 a0_3 a0_4 a0_5 a0_6 a0_7 a0_8 a0_9 l0_10 l0_11)))) = some r := H
 have A48 := Aside0.mk A480
 clear A480
 replace H := Option.bind_eq_some_iff.mp H
 obtain ⟨t212, A490, H⟩ := H
 replace H : ((spec_l03Put.f k5 ((rd_T157 l0_10 x4_5).f1) 4).bind fun t216 => ((spec_l01Join.f k5 t212 t216).bind fun t219 => (spec_l11Options.l0 k5 t219 (wrap64 (x4_5 + 1)) a0_0 a0_1 a0_2 a0_3 a0_4 a0_5 a0_6 a0_7 a0_8 a0_9 l0_10 l0_11))) = some r := H
 have A49 := Aside0.mk A490
 clear A490
 replace H := Option.bind_eq_some_iff.mp H
 obtain ⟨t216, A500, H⟩ := H
 replace H : ((spec_l01Join.f k5 t212 t216).bind fun t219 => (spec_l11Options.l0 k5 t219 (wrap64 (x4_5 + 1)) a0_0 a0_1 a0_2 a0_3 a0_4 a0_5 a0_6 a0_7 a0_8 a0_9 l0_10 l0_11)) = some r := H
 have A50 := Aside0.mk A500
 clear A500
 replace H := Option.bind_eq_some_iff.mp H
 obtain ⟨t219, A510, H⟩ := H
 replace H : (spec_l11Options.l0 k5 t219 (wrap64 (x4_5 + 1)) a0_0 a0_1 a0_2 a0_3 a0_4 a0_5 a0_6 a0_7 a0_8 a0_9 l0_10 l0_11) = some r := H
 have A51 := Aside0.mk A510
 clear A510
 have H' := Aside0.mk H
 clear H
 obtain ⟨⟨hcz52_0, hcz52_1, hcz52_2, hcz52_3, hcz52_4, hcz52_5, hcz52_6, hcz52_7, hcz52_8, hcz52_9, hcz52_10, hcz52_11⟩, hfz52_0, hfz52_1, hfz52_2, hfz52_3, hfz52_4, hfz52_5, hfz52_6, hfz52_7, hfz52_8, hfz52_9, hfz52_10, hfz52_11⟩ := cells12 BK177.out
 try go_wp2
 have n0_ := Aside0.mk (Kd.R_drew HO_3.out)
 have n1_ := Aside0.mk (blk_drew BK177.out)
 have n2_ := Aside0.mk (below_drew1 HB.out)
 clear HO_3
 clear BK177
 clear HB
 have HO_3 := n0_
 have BK177 := n1_
 have HB := n2_
 clear n0_ n1_ n2_
 have p208 : 0 ≤ (x4_5 : Int) := of_decide_eq_true (by first | (with_reducible assumption) | assumption)
 have q208 : x4_5 < (l0_10.length : Int) := of_decide_eq_true (by first | (with_reducible assumption) | assumption)
 obtain ⟨ad208, e208, hx208_0, hx208_1⟩ := at_T157 HR0_10.out x4_5 p208 q208
 have hw208_1 := hx208_1
 have hw208_0 := hx208_0
 cases e208
 replace hx208_0 := (HB.out.cell (World.block_lt_of_cell? w _ hx208_0)).trans hx208_0
 replace hx208_1 := (HB.out.cell (World.block_lt_of_cell? w _ hx208_1)).trans hx208_1
 replace p208 := eq_true p208
 replace q208 := eq_true q208
 have p215 : 0 ≤ (x4_5 : Int) := of_decide_eq_true (by first | (with_reducible assumption) | assumption)
 have q215 : x4_5 < (l0_10.length : Int) := of_decide_eq_true (by first | (with_reducible assumption) | assumption)
 obtain ⟨ad215, e215, hx215_0, hx215_1⟩ := at_T157 HR0_10.out x4_5 p215 q215
 have hw215_1 := hx215_1
 have hw215_0 := hx215_0
 obtain rfl : ad208 = ad215 := (by injection e215)
 replace hx215_0 := (HB.out.cell (World.block_lt_of_cell? w _ hx215_0)).trans hx215_0
 replace hx215_1 := (HB.out.cell (World.block_lt_of_cell? w _ hx215_1)).trans hx215_1
 replace p215 := eq_true p215
 replace q215 := eq_true q215
 refine start_ (n := 18) (S := fun w' => w'.cell? ⟨gb177, 0, none⟩ = some (.int .i64 a0_0) ∧ w'.cell? ⟨gb177, 1, none⟩ = some (.int .i64 a0_1) ∧ w'.cell? ⟨gb177, 2, none⟩ = some (.int .i64 a0_2) ∧ w'.cell? ⟨gb177, 3, none⟩ = some (.int .i64 a0_3) ∧ w'.cell? ⟨gb177, 4, none⟩ = some (.int .i64 a0_4) ∧ w'.cell? ⟨gb177, 5, none⟩ = some (.int .i64 a0_5) ∧ w'.cell? ⟨gb177, 6, none⟩ = some (.int .i64 a0_6) ∧ w'.cell? ⟨gb177, 7, none⟩ = some (.bool a0_7) ∧ w'.cell? ⟨gb177, 8, none⟩ = some (.int .i64 a0_8) ∧ w'.cell? ⟨gb177, 9, none⟩ = some (.bool a0_9) ∧ w'.cell? ⟨gb177, 10, none⟩ = some (.slice (some ad208) l0_10.length c0_10) ∧ w'.cell? ⟨gb177, 11, none⟩ = some (.slice A0_11 l0_11.length c0_11) ∧ w'.cell? (ad208.add ((x4_5).toNat * 2)) = some (.int .i64 ((rd_T157 l0_10 x4_5).f0)) ∧ w'.cell? ⟨(ad208.add ((x4_5).toNat * 2)).block, (ad208.add ((x4_5).toNat * 2)).off + 1, none⟩ = some (.int .i64 ((rd_T157 l0_10 x4_5).f1)) ∧ w'.cell? (ad208.add ((x4_5).toNat * 2)) = some (.int .i64 ((rd_T157 l0_10 x4_5).f0)) ∧ w'.cell? ⟨(ad208.add ((x4_5).toNat * 2)).block, (ad208.add ((x4_5).toNat * 2)).off + 1, none⟩ = some (.int .i64 ((rd_T157 l0_10 x4_5).f1))) (ds := []) #[false, false, false, false, false, false, false, false, false, false, false, false, false, false, false, false, false, false] (by kernel_rfl) rfl rfl ⟨(blk_cell BK177.out 0).trans rfl, (blk_cell BK177.out 1).trans rfl, (blk_cell BK177.out 2).trans rfl, (blk_cell BK177.out 3).trans rfl, (blk_cell BK177.out 4).trans rfl, (blk_cell BK177.out 5).trans rfl, (blk_cell BK177.out 6).trans rfl, (blk_cell BK177.out 7).trans rfl, (blk_cell BK177.out 8).trans rfl, (blk_cell BK177.out 9).trans rfl, (blk_cell BK177.out 10).trans rfl, (blk_cell BK177.out 11).trans rfl, ((HB.out.cell (World.block_lt_of_cell? w _ hw208_0)).trans hw208_0), ((HB.out.cell (World.block_lt_of_cell? w _ hw208_1)).trans hw208_1), ((HB.out.cell (World.block_lt_of_cell? w _ hw215_0)).trans hw215_0), ((HB.out.cell (World.block_lt_of_cell? w _ hw215_1)).trans hw215_1)⟩ (fun hHeld => ?_); refine with_tabW spec_l11Options.tab13 spec_l11Options.bits13 (fun HT_ HW_ => ?_)
 generalize wr.drew = w53 at HO_3 BK177 HB hx208_0 hx208_1 hx215_0 hx215_1 hHeld ⊢
 refine pure_ (i := 0) (N := some 47) (v := ?_) (a' := ?_) #[true, false, false, false, false, false, false, false, false, false, false, false, false, false, false, false, false, false] rfl rfl (any_of HT_.out (by kernel_rfl)) (fun _ _ _ h => h) (Or.inl ⟨by rfl, ?_⟩) ?_ ?_
 rotate_left
 {
 intro w'
 go_simp
 with_reducible rfl
 }
 rotate_left
 {
 simp only [Act.put, List.setIfInBounds_toArray, List.set_cons_zero, List.set_cons_succ, i64_w, i32_w]
 rfl
 }
 refine pure_ (i := 1) (N := some 48) (v := ?_) (a' := ?_) #[true, true, false, false, false, false, false, false, false, false, false, false, false, false, false, false, false, false] rfl rfl (any_of HT_.out (by kernel_rfl)) (fun _ _ _ h => h) (Or.inl ⟨by rfl, ?_⟩) ?_ ?_
 rotate_left
 {
 intro w'
 go_simp
 with_reducible rfl
 }
 rotate_left
 {
 simp only [Act.put, List.setIfInBounds_toArray, List.set_cons_zero, List.set_cons_succ, i64_w, i32_w]
 rfl
 }
 refine pure_ (i := 3) (N := some 50) (v := ?_) (a' := ?_) #[true, true, false, true, false, false, false, false, false, false, false, false, false, false, false, false, false, false] rfl rfl (any_of HT_.out (by kernel_rfl)) (fun _ _ _ h => h) (Or.inl ⟨by rfl, ?_⟩) ?_ ?_
 rotate_left
 {
 intro w'
 go_simp
 with_reducible rfl
 }
 rotate_left
 {
 simp only [Act.put, List.setIfInBounds_toArray, List.set_cons_zero, List.set_cons_succ, i64_w, i32_w]
 rfl
 }
 refine pure_ (i := 9) (N := some 56) (v := ?_) (a' := ?_) #[true, true, false, true, false, false, false, false, false, true, false, false, false, false, false, false, false, false] rfl rfl (any_of HT_.out (by kernel_rfl)) (fun _ _ _ h => h) (Or.inl ⟨by rfl, ?_⟩) ?_ ?_
 rotate_left
 {
 intro w'
 go_simp
 with_reducible rfl
 }
 rotate_left
 {
 simp only [Act.put, List.setIfInBounds_toArray, List.set_cons_zero, List.set_cons_succ, i64_w, i32_w]
 rfl
 }
 refine pure_ (i := 11) (N := some 58) (v := ?_) (a' := ?_) #[true, true, false, true, false, false, false, false, false, true, false, true, false, false, false, false, false, false] rfl rfl (any_of HT_.out (by kernel_rfl)) (fun _ _ _ h => h) (Or.inl ⟨by rfl, ?_⟩) ?_ ?_
 rotate_left
 {
 intro w'
 go_simp
 with_reducible rfl
 }
 rotate_left
 {
 simp only [Act.put, List.setIfInBounds_toArray, List.set_cons_zero, List.set_cons_succ, i64_w, i32_w]
 rfl
 }
 refine take_ (i := 2) (N := some 49) (v := ?_) (a' := ?_) #[true, true, true, true, false, false, false, false, false, true, false, true, false, false, false, false, false, false] rfl rfl (take_ofW HT_.out HW_.out (by kernel_rfl)) (fun _ _ _ h => h) (Or.inl ⟨by rfl, ?_⟩) hHeld ?_ ?_
 rotate_left
 {
 rintro w' ⟨s0, s1, s2, s3, s4, s5, s6, s7, s8, s9, s10, s11, s12, s13, s14, s15⟩
 go_simp
 with_reducible rfl
 }
 rotate_left
 {
 simp only [Act.put, List.setIfInBounds_toArray, List.set_cons_zero, List.set_cons_succ, i64_w, i32_w]
 rfl
 }
 refine pure_ (i := 4) (N := some 51) (v := ?_) (a' := ?_) #[true, true, true, true, true, false, false, false, false, true, false, true, false, false, false, false, false, false] rfl rfl (any_of HT_.out (by kernel_rfl)) (fun _ _ _ h => h) (Or.inl ⟨by rfl, ?_⟩) ?_ ?_
 rotate_left
 {
 intro w'
 go_simp
 with_reducible rfl
 }
 rotate_left
 {
 simp only [Act.put, List.setIfInBounds_toArray, List.set_cons_zero, List.set_cons_succ, i64_w, i32_w]
 rfl
 }
 refine pure_ (i := 5) (N := some 52) (v := ?_) (a' := ?_) #[true, true, true, true, true, true, false, false, false, true, false, true, false, false, false, false, false, false] rfl rfl (any_of HT_.out (by kernel_rfl)) (fun _ _ _ h => h) (Or.inl ⟨by rfl, ?_⟩) ?_ ?_
 rotate_left
 {
 intro w'
 go_simp
 with_reducible rfl
 }
 rotate_left
 {
 simp only [Act.put, List.setIfInBounds_toArray, List.set_cons_zero, List.set_cons_succ, i64_w, i32_w]
 rfl
 }
 refine take_ (i := 6) (N := some 53) (v := ?_) (a' := ?_) #[true, true, true, true, true, true, true, false, false, true, false, true, false, false, false, false, false, false] rfl rfl (take_ofW HT_.out HW_.out (by kernel_rfl)) (fun _ _ _ h => h) (Or.inl ⟨by rfl, ?_⟩) hHeld ?_ ?_
 rotate_left
 {
 rintro w' ⟨s0, s1, s2, s3, s4, s5, s6, s7, s8, s9, s10, s11, s12, s13, s14, s15⟩
 go_simp
 with_reducible rfl
 }
 rotate_left
 {
 simp only [Act.put, List.setIfInBounds_toArray, List.set_cons_zero, List.set_cons_succ, i64_w, i32_w]
 rfl
 }
 refine take_ (i := 10) (N := some 57) (v := ?_) (a' := ?_) #[true, true, true, true, true, true, true, false, false, true, true, true, false, false, false, false, false, false] rfl rfl (take_ofW HT_.out HW_.out (by kernel_rfl)) (fun _ _ _ h => h) (Or.inl ⟨by rfl, ?_⟩) hHeld ?_ ?_
 rotate_left
 {
 rintro w' ⟨s0, s1, s2, s3, s4, s5, s6, s7, s8, s9, s10, s11, s12, s13, s14, s15⟩
 go_simp
 with_reducible rfl
 }
 rotate_left
 {
 simp only [Act.put, List.setIfInBounds_toArray, List.set_cons_zero, List.set_cons_succ, i64_w, i32_w]
 rfl
 }
 refine pure_ (i := 12) (N := some 59) (v := ?_) (a' := ?_) #[true, true, true, true, true, true, true, false, false, true, true, true, true, false, false, false, false, false] rfl rfl (any_of HT_.out (by kernel_rfl)) (fun _ _ _ h => h) (Or.inl ⟨by rfl, ?_⟩) ?_ ?_
 rotate_left
 {
 intro w'
 go_simp
 with_reducible rfl
 }
 rotate_left
 {
 simp only [Act.put, List.setIfInBounds_toArray, List.set_cons_zero, List.set_cons_succ, i64_w, i32_w]
 rfl
 }
 refine pure_ (i := 13) (N := some 60) (v := ?_) (a' := ?_) #[true, true, true, true, true, true, true, false, false, true, true, true, true, true, false, false, false, false] rfl rfl (any_of HT_.out (by kernel_rfl)) (fun _ _ _ h => h) (Or.inl ⟨by rfl, ?_⟩) ?_ ?_
 rotate_left
 {
 intro w'
 go_simp
 with_reducible rfl
 }
 rotate_left
 {
 simp only [Act.put, List.setIfInBounds_toArray, List.set_cons_zero, List.set_cons_succ, i64_w, i32_w]
 rfl
 }
 refine take_ (i := 14) (N := some 61) (v := ?_) (a' := ?_) #[true, true, true, true, true, true, true, false, false, true, true, true, true, true, true, false, false, false] rfl rfl (take_ofW HT_.out HW_.out (by kernel_rfl)) (fun _ _ _ h => h) (Or.inl ⟨by rfl, ?_⟩) hHeld ?_ ?_
 rotate_left
 {
 rintro w' ⟨s0, s1, s2, s3, s4, s5, s6, s7, s8, s9, s10, s11, s12, s13, s14, s15⟩
 go_simp
 with_reducible rfl
 }
 rotate_left
 {
 simp only [Act.put, List.setIfInBounds_toArray, List.set_cons_zero, List.set_cons_succ, i64_w, i32_w]
 rfl
 }
 refine one_ (i := 7) (N := some 54) #[true, true, true, true, true, true, true, true, false, true, true, true, true, true, true, false, false, false] rfl rfl (one_of HT_.out (by kernel_rfl)) (by decide) (fun K hK => ?_)
 refine goes_ Try.func124 (by kernel_rfl) rfl #[.int .i64 ((rd_T157 l0_10 x4_5).f0), .int .i64 4] (by rfl) rfl rfl wT ?_
 with_reducible refine (spec_l03Put.calls k5 ((rd_T157 l0_10 x4_5).f0) 4 t209 _ A48.out).mono ?_
 rintro e w54 ⟨v210, rfl, ho0, hb⟩
 refine ⟨_, rfl, ?_⟩
 have n0_ := Aside0.mk (Kd.R_elder' (Rh HO_3) (Kd.R_base ho0) hb)
 have n1_ := Aside0.mk (Kd.R_lower (Kd.R_new' ho0 (Kd.R_lt (Rh HO_3))) (below_size wB))
 have n2_ := Aside0.mk (blk_below (Bh BK177) hb)
 have n3_ := Aside0.mk (below_step wB hb)
 clear HO_3
 clear BK177
 clear HB
 have HO_3 := n0_
 have HO211 := n1_
 have BK177 := n2_
 have HB := n3_
 clear n0_ n1_ n2_ n3_
 (try clear hb)
 (try clear hb2)
 (try clear hk)
 (try clear hi)
 (try clear ho0)
 obtain ⟨Ao55, co55, eo55⟩ := Kd.R_slice HO_3.out
 (first | subst eo55 | (injection eo55 with f1_ f2_ f3_; have f4_ := f1_.symm; have f5_ := f3_.symm; clear f1_ f2_ f3_; subst f4_; subst f5_))
 obtain ⟨Ao56, co56, eo56⟩ := Kd.R_slice HO211.out
 (first | subst eo56 | (injection eo56 with f1_ f2_ f3_; have f4_ := f1_.symm; have f5_ := f3_.symm; clear f1_ f2_ f3_; subst f4_; subst f5_))
 refine hK.out _ _ ⟨(blk_cell BK177.out 0).trans rfl, (blk_cell BK177.out 1).trans rfl, (blk_cell BK177.out 2).trans rfl, (blk_cell BK177.out 3).trans rfl, (blk_cell BK177.out 4).trans rfl, (blk_cell BK177.out 5).trans rfl, (blk_cell BK177.out 6).trans rfl, (blk_cell BK177.out 7).trans rfl, (blk_cell BK177.out 8).trans rfl, (blk_cell BK177.out 9).trans rfl, (blk_cell BK177.out 10).trans rfl, (blk_cell BK177.out 11).trans rfl, ((HB.out.cell (World.block_lt_of_cell? w _ hw208_0)).trans hw208_0), ((HB.out.cell (World.block_lt_of_cell? w _ hw208_1)).trans hw208_1), ((HB.out.cell (World.block_lt_of_cell? w _ hw215_0)).trans hw215_0), ((HB.out.cell (World.block_lt_of_cell? w _ hw215_1)).trans hw215_1)⟩ (fun hHeld => ?_)
 clear hK K
 refine norm_ (a' := ?_) ?_ ?_
 rotate_left
 {
 show Act.put _ (some 54) _ = _
 simp only [Act.put, List.setIfInBounds_toArray, List.set_cons_zero, List.set_cons_succ, i64_w, i32_w]
 rfl
 }
 refine one_ (i := 8) (N := some 55) #[true, true, true, true, true, true, true, true, true, true, true, true, true, true, true, false, false, false] rfl rfl (one_of HT_.out (by kernel_rfl)) (by decide) (fun K hK => ?_)
 refine goes_ Try.func119 (by kernel_rfl) rfl #[.slice Ao55 x3_5.length co55, .slice Ao56 t209.length co56] (by rfl) rfl rfl wT ?_
 with_reducible refine (spec_l01Join.calls k5 _ _ x3_5 _ _ t209 t212 _ ?side1 ?side2 ?side3 ?side4 A49.out).mono ?_
 (case side1 => exact Ch HO_3)
 (case side2 => exact (Kd.R_reads' HO_3.out).2.1)
 (case side3 => exact Ch HO211)
 (case side4 => exact (Kd.R_reads' HO211.out).2.1)
 rintro e w57 ⟨v213, rfl, ho0, hb⟩
 refine ⟨_, rfl, ?_⟩
 have n0_ := Aside0.mk (Kd.R_elder' (Rh HO_3) (Kd.R_base ho0) hb)
 have n1_ := Aside0.mk (Kd.R_elder' (Rh HO211) (Kd.R_base ho0) hb)
 have n2_ := Aside0.mk (Kd.R_lower (Kd.R_new' (Kd.R_new' ho0 (Kd.R_lt (Rh HO_3))) (Kd.R_lt (Rh HO211))) (below_size wB))
 have n3_ := Aside0.mk (blk_below (Bh BK177) hb)
 have n4_ := Aside0.mk (below_step wB hb)
 clear HO_3
 clear HO211
 clear BK177
 clear HB
 have HO_3 := n0_
 have HO211 := n1_
 have HO214 := n2_
 have BK177 := n3_
 have HB := n4_
 clear n0_ n1_ n2_ n3_ n4_
 (try clear hb)
 (try clear hb2)
 (try clear hk)
 (try clear hi)
 (try clear ho0)
 refine hK.out _ _ ⟨(blk_cell BK177.out 0).trans rfl, (blk_cell BK177.out 1).trans rfl, (blk_cell BK177.out 2).trans rfl, (blk_cell BK177.out 3).trans rfl, (blk_cell BK177.out 4).trans rfl, (blk_cell BK177.out 5).trans rfl, (blk_cell BK177.out 6).trans rfl, (blk_cell BK177.out 7).trans rfl, (blk_cell BK177.out 8).trans rfl, (blk_cell BK177.out 9).trans rfl, (blk_cell BK177.out 10).trans rfl, (blk_cell BK177.out 11).trans rfl, ((HB.out.cell (World.block_lt_of_cell? w _ hw208_0)).trans hw208_0), ((HB.out.cell (World.block_lt_of_cell? w _ hw208_1)).trans hw208_1), ((HB.out.cell (World.block_lt_of_cell? w _ hw215_0)).trans hw215_0), ((HB.out.cell (World.block_lt_of_cell? w _ hw215_1)).trans hw215_1)⟩ (fun hHeld => ?_)
 clear hK K
 refine norm_ (a' := ?_) ?_ ?_
 rotate_left
 {
 show Act.put _ (some 55) _ = _
 simp only [Act.put, List.setIfInBounds_toArray, List.set_cons_zero, List.set_cons_succ, i64_w, i32_w]
 rfl
 }
 refine one_ (i := 15) (N := some 62) #[true, true, true, true, true, true, true, true, true, true, true, true, true, true, true, true, false, false] rfl rfl (one_of HT_.out (by kernel_rfl)) (by decide) (fun K hK => ?_)
 refine goes_ Try.func124 (by kernel_rfl) rfl #[.int .i64 ((rd_T157 l0_10 x4_5).f1), .int .i64 4] (by rfl) rfl rfl wT ?_
 with_reducible refine (spec_l03Put.calls k5 ((rd_T157 l0_10 x4_5).f1) 4 t216 _ A50.out).mono ?_
 rintro e w58 ⟨v217, rfl, ho0, hb⟩
 refine ⟨_, rfl, ?_⟩
 have n0_ := Aside0.mk (Kd.R_elder' (Rh HO_3) (Kd.R_base ho0) hb)
 have n1_ := Aside0.mk (Kd.R_elder' (Rh HO211) (Kd.R_base ho0) hb)
 have n2_ := Aside0.mk (Kd.R_elder' (Rh HO214) (Kd.R_base ho0) hb)
 have n3_ := Aside0.mk (Kd.R_lower (Kd.R_new' (Kd.R_new' (Kd.R_new' ho0 (Kd.R_lt (Rh HO_3))) (Kd.R_lt (Rh HO211))) (Kd.R_lt (Rh HO214))) (below_size wB))
 have n4_ := Aside0.mk (blk_below (Bh BK177) hb)
 have n5_ := Aside0.mk (below_step wB hb)
 clear HO_3
 clear HO211
 clear HO214
 clear BK177
 clear HB
 have HO_3 := n0_
 have HO211 := n1_
 have HO214 := n2_
 have HO218 := n3_
 have BK177 := n4_
 have HB := n5_
 clear n0_ n1_ n2_ n3_ n4_ n5_
 (try clear hb)
 (try clear hb2)
 (try clear hk)
 (try clear hi)
 (try clear ho0)
 obtain ⟨Ao59, co59, eo59⟩ := Kd.R_slice HO214.out
 (first | subst eo59 | (injection eo59 with f1_ f2_ f3_; have f4_ := f1_.symm; have f5_ := f3_.symm; clear f1_ f2_ f3_; subst f4_; subst f5_))
 obtain ⟨Ao60, co60, eo60⟩ := Kd.R_slice HO218.out
 (first | subst eo60 | (injection eo60 with f1_ f2_ f3_; have f4_ := f1_.symm; have f5_ := f3_.symm; clear f1_ f2_ f3_; subst f4_; subst f5_))
 refine hK.out _ _ ⟨(blk_cell BK177.out 0).trans rfl, (blk_cell BK177.out 1).trans rfl, (blk_cell BK177.out 2).trans rfl, (blk_cell BK177.out 3).trans rfl, (blk_cell BK177.out 4).trans rfl, (blk_cell BK177.out 5).trans rfl, (blk_cell BK177.out 6).trans rfl, (blk_cell BK177.out 7).trans rfl, (blk_cell BK177.out 8).trans rfl, (blk_cell BK177.out 9).trans rfl, (blk_cell BK177.out 10).trans rfl, (blk_cell BK177.out 11).trans rfl, ((HB.out.cell (World.block_lt_of_cell? w _ hw208_0)).trans hw208_0), ((HB.out.cell (World.block_lt_of_cell? w _ hw208_1)).trans hw208_1), ((HB.out.cell (World.block_lt_of_cell? w _ hw215_0)).trans hw215_0), ((HB.out.cell (World.block_lt_of_cell? w _ hw215_1)).trans hw215_1)⟩ (fun hHeld => ?_)
 clear hK K
 refine norm_ (a' := ?_) ?_ ?_
 rotate_left
 {
 show Act.put _ (some 62) _ = _
 simp only [Act.put, List.setIfInBounds_toArray, List.set_cons_zero, List.set_cons_succ, i64_w, i32_w]
 rfl
 }
 refine one_ (i := 16) (N := some 63) #[true, true, true, true, true, true, true, true, true, true, true, true, true, true, true, true, true, false] rfl rfl (one_of HT_.out (by kernel_rfl)) (by decide) (fun K hK => ?_)
 refine goes_ Try.func119 (by kernel_rfl) rfl #[.slice Ao59 t212.length co59, .slice Ao60 t216.length co60] (by rfl) rfl rfl wT ?_
 with_reducible refine (spec_l01Join.calls k5 _ _ t212 _ _ t216 t219 _ ?side1 ?side2 ?side3 ?side4 A51.out).mono ?_
 (case side1 => exact Ch HO214)
 (case side2 => exact (Kd.R_reads' HO214.out).2.1)
 (case side3 => exact Ch HO218)
 (case side4 => exact (Kd.R_reads' HO218.out).2.1)
 rintro e w61 ⟨v220, rfl, ho0, hb⟩
 refine ⟨_, rfl, ?_⟩
 have n0_ := Aside0.mk (Kd.R_elder' (Rh HO_3) (Kd.R_base ho0) hb)
 have n1_ := Aside0.mk (Kd.R_elder' (Rh HO211) (Kd.R_base ho0) hb)
 have n2_ := Aside0.mk (Kd.R_elder' (Rh HO214) (Kd.R_base ho0) hb)
 have n3_ := Aside0.mk (Kd.R_elder' (Rh HO218) (Kd.R_base ho0) hb)
 have n4_ := Aside0.mk (Kd.R_lower (Kd.R_new' (Kd.R_new' (Kd.R_new' (Kd.R_new' ho0 (Kd.R_lt (Rh HO_3))) (Kd.R_lt (Rh HO211))) (Kd.R_lt (Rh HO214))) (Kd.R_lt (Rh HO218))) (below_size wB))
 have n5_ := Aside0.mk (blk_below (Bh BK177) hb)
 have n6_ := Aside0.mk (below_step wB hb)
 clear HO_3
 clear HO211
 clear HO214
 clear HO218
 clear BK177
 clear HB
 have HO_3 := n0_
 have HO211 := n1_
 have HO214 := n2_
 have HO218 := n3_
 have HO221 := n4_
 have BK177 := n5_
 have HB := n6_
 clear n0_ n1_ n2_ n3_ n4_ n5_ n6_
 (try clear hb)
 (try clear hb2)
 (try clear hk)
 (try clear hi)
 (try clear ho0)
 refine hK.out _ _ ⟨(blk_cell BK177.out 0).trans rfl, (blk_cell BK177.out 1).trans rfl, (blk_cell BK177.out 2).trans rfl, (blk_cell BK177.out 3).trans rfl, (blk_cell BK177.out 4).trans rfl, (blk_cell BK177.out 5).trans rfl, (blk_cell BK177.out 6).trans rfl, (blk_cell BK177.out 7).trans rfl, (blk_cell BK177.out 8).trans rfl, (blk_cell BK177.out 9).trans rfl, (blk_cell BK177.out 10).trans rfl, (blk_cell BK177.out 11).trans rfl, ((HB.out.cell (World.block_lt_of_cell? w _ hw208_0)).trans hw208_0), ((HB.out.cell (World.block_lt_of_cell? w _ hw208_1)).trans hw208_1), ((HB.out.cell (World.block_lt_of_cell? w _ hw215_0)).trans hw215_0), ((HB.out.cell (World.block_lt_of_cell? w _ hw215_1)).trans hw215_1)⟩ (fun hHeld => ?_)
 clear hK K
 refine norm_ (a' := ?_) ?_ ?_
 rotate_left
 {
 show Act.put _ (some 63) _ = _
 simp only [Act.put, List.setIfInBounds_toArray, List.set_cons_zero, List.set_cons_succ, i64_w, i32_w]
 rfl
 }
 refine pure_ (i := 17) (N := some 3) (v := ?_) (a' := ?_) #[true, true, true, true, true, true, true, true, true, true, true, true, true, true, true, true, true, true] rfl rfl (any_of HT_.out (by kernel_rfl)) (fun _ _ _ h => h) (Or.inl ⟨by rfl, ?_⟩) ?_ ?_
 rotate_left
 {
 intro w'
 go_simp
 with_reducible rfl
 }
 rotate_left
 {
 simp only [Act.put, List.setIfInBounds_toArray, List.set_cons_zero, List.set_cons_succ, i64_w, i32_w]
 rfl
 }
 refine done_ (done_of HT_.out (by kernel_rfl)) ?_
 try go_wp2
 go_roundg k5
 case measure => have := HJ1.out; have := HJ16.out; have := HJ26.out; have := HJ35.out; have := HK5.out; omega
 case rel => exact ⟨(t219), (wrap64 (x4_5 + 1)), (by first | rfl | (simp; done) | (simp [*]; done)), H', ⟨by have := HJ1.out; have := HJ16.out; have := HJ26.out; have := HJ35.out; have := HK5.out; omega⟩, ⟨Kd.R_mono (Rh HO221) (fun _ hk => trivial)⟩, ⟨Bh BK177⟩, ⟨wB⟩⟩
 }
 {
 rw [if_neg c47] at H
 exact absurd H (by simp)
 }
 }
 {
 rw [if_neg c46] at H
 have c46b0 : decide (x4_5 < (l0_10.length : Int)) = false := decide_eq_false c46
 clear c46
 obtain rfl := Option.some.inj H
 obtain ⟨⟨hcz62_0, hcz62_1, hcz62_2, hcz62_3, hcz62_4, hcz62_5, hcz62_6, hcz62_7, hcz62_8, hcz62_9, hcz62_10, hcz62_11⟩, hfz62_0, hfz62_1, hfz62_2, hfz62_3, hfz62_4, hfz62_5, hfz62_6, hfz62_7, hfz62_8, hfz62_9, hfz62_10, hfz62_11⟩ := cells12 BK177.out
 go_wp2
 go_ret
 exact ⟨_, by first | rfl | (simp [errW_none, errW_some] <;> rfl) | (simp [*, errW_none, errW_some] <;> rfl), by (with_reducible repeat (first | apply Kd.R_alloc | apply Kd.R_drewN | apply Kd.R_drew)); exact HO_3.out, wB⟩
 }
 }
 )
 }
 )
 }
 )
 }
 )
 }
 )

end Go.Proofs.Ytobaoffcepmeiaa.PFnExactEncodeSegment
