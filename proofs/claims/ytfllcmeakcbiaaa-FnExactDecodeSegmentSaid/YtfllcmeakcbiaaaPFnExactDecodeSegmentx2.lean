-- Written for this claim by a program of this session (wip/mkprint.py: the print, turned at a few places). Not trusted: Lean checks it.
import Derived.Test.YtfllcmeakcbiaaaPFnExactDecodeSegmentx0
import Derived.Test.YtfllcmeakcbiaaaPFnExactDecodeSegmentx1
namespace Go.Proofs.Ytfllcmeakcbiaaa.PFnExactDecodeSegment
open Go.RowKit Go.Proofs.YtfllcmeakcbiaaaW.PrintWords Go.Proofs.YtfllcmeakcbiaaaW.PrintLast Go.Proofs.YtfllcmeakcbiaaaW.PrintMore
attribute [local go_sem] max2_int min2_int max_two min_two max_three min_three max_four min_four   -- for this text's walks alone
set_option linter.unusedVariables false
set_option linter.unusedSimpArgs false

/-! ### spec_l11Option: function 51 -/
mutual
def spec_l11Option.j0 : Nat → List Int → Bool → Int → Int → Int → Int → Int → Int → Int → Bool → Int → Bool → List (S60) → List Int → Option (Int × Int × Int × Int × Int × Int × Int × Bool × Int × Bool × (List (S60)) × Bool)
  | 0, _, _, _, _, _, _, _, _, _, _, _, _, _, _ => none
  | k + 1, x1, x58, x155000, x155001, x155002, x155003, x155004, x155005, x155006, x155007, x155008, x155009, x155010, x155011 => if x58 = true then (some (x155000, x155001, x155002, x155003, x155004, x155005, x155006, x155007, x155008, x155009, x155010, false)) else (spec_l11Option.l0 k x1 2 x155000 x155001 x155002 x155003 x155004 x155005 x155006 x155007 x155008 x155009 ([] : List (S60)) x155011)
def spec_l11Option.l0 : Nat → List Int → Int → Int → Int → Int → Int → Int → Int → Int → Bool → Int → Bool → List (S60) → List Int → Option (Int × Int × Int × Int × Int × Int × Int × Bool × Int × Bool × (List (S60)) × Bool)
  | 0, _, _, _, _, _, _, _, _, _, _, _, _, _, _ => none
  | k + 1, x1, x6, x155000, x155001, x155002, x155003, x155004, x155005, x155006, x155007, x155008, x155009, x155010, x155011 => if x6 < (x1.length : Int) then (spec_l11Option.j2 k x1 x6 (decide ((x155010.length : Int) < 3)) x155000 x155001 x155002 x155003 x155004 x155005 x155006 x155007 x155008 x155009 x155010 x155011) else (spec_l11Option.j2 k x1 x6 false x155000 x155001 x155002 x155003 x155004 x155005 x155006 x155007 x155008 x155009 x155010 x155011)
def spec_l11Option.j2 : Nat → List Int → Int → Bool → Int → Int → Int → Int → Int → Int → Int → Bool → Int → Bool → List (S60) → List Int → Option (Int × Int × Int × Int × Int × Int × Int × Bool × Int × Bool × (List (S60)) × Bool)
  | 0, _, _, _, _, _, _, _, _, _, _, _, _, _, _, _ => none
  | k + 1, x1, x6, x70, x155000, x155001, x155002, x155003, x155004, x155005, x155006, x155007, x155008, x155009, x155010, x155011 => if x70 = true then (if 0 ≤ x6 then (if x6 ≤ (wrap64 (x6 + 4)) then (if (wrap64 (x6 + 4)) ≤ (x1.length : Int) then ((spec_l03Num.f k ((x1.take ((wrap64 (x6 + 4)) : Int).toNat).drop (x6 : Int).toNat)).bind fun t167 => (if 0 ≤ (wrap64 (x6 + 4)) then (if (wrap64 (x6 + 4)) ≤ (wrap64 (x6 + 8)) then (if (wrap64 (x6 + 8)) ≤ (x1.length : Int) then ((spec_l03Num.f k ((x1.take ((wrap64 (x6 + 8)) : Int).toNat).drop ((wrap64 (x6 + 4)) : Int).toNat)).bind fun t172 => (if x155010.length < 8796093022208 then (spec_l11Option.l0 k x1 (wrap64 (x6 + 8)) x155000 x155001 x155002 x155003 x155004 x155005 x155006 x155007 x155008 x155009 (x155010 ++ [(⟨t167, t172⟩ : S60)]) x155011) else (none))) else (none)) else (none)) else (none))) else (none)) else (none)) else (none)) else (some (x155000, x155001, x155002, x155003, x155004, x155005, x155006, x155007, x155008, x155009, x155010, true))
end
def spec_l11Option.f (k : Nat) (a0_0 : Int) (a0_1 : Int) (a0_2 : Int) (a0_3 : Int) (a0_4 : Int) (a0_5 : Int) (a0_6 : Int) (a0_7 : Bool) (a0_8 : Int) (a0_9 : Bool) (l0_10 : List (S60)) (l0_11 : List Int) (l1 : List Int) : Option (Int × Int × Int × Int × Int × Int × Int × Bool × Int × Bool × (List (S60)) × Bool) := if 0 < (l1.length : Int) then (if (rd l1 0) = 2 then (if (l1.length : Int) = 4 then (if 2 ≤ (l1.length : Int) then ((spec_l03Num.f k (l1.drop 2)).bind fun t161 => (some (a0_0, a0_1, a0_2, a0_3, a0_4, a0_5, t161, a0_7, a0_8, a0_9, l0_10, true))) else (none)) else (some (a0_0, a0_1, a0_2, a0_3, a0_4, a0_5, a0_6, a0_7, a0_8, a0_9, l0_10, false))) else (if (rd l1 0) = 3 then (if (l1.length : Int) = 3 then (if 2 < (l1.length : Int) then (if (wrap64 (rd l1 2)) > 14 then (some (a0_0, a0_1, a0_2, a0_3, a0_4, a0_5, a0_6, true, 14, a0_9, l0_10, true)) else (some (a0_0, a0_1, a0_2, a0_3, a0_4, a0_5, a0_6, true, wrap64 (rd l1 2), a0_9, l0_10, true))) else (none)) else (some (a0_0, a0_1, a0_2, a0_3, a0_4, a0_5, a0_6, a0_7, a0_8, a0_9, l0_10, false))) else (if (rd l1 0) = 4 then (if (l1.length : Int) = 2 then (some (a0_0, a0_1, a0_2, a0_3, a0_4, a0_5, a0_6, a0_7, a0_8, true, l0_10, true)) else (some (a0_0, a0_1, a0_2, a0_3, a0_4, a0_5, a0_6, a0_7, a0_8, a0_9, l0_10, false))) else (if (rd l1 0) = 5 then (if (l1.length : Int) < 10 then (spec_l11Option.j0 k l1 true a0_0 a0_1 a0_2 a0_3 a0_4 a0_5 a0_6 a0_7 a0_8 a0_9 l0_10 l0_11) else (if (l1.length : Int) > 34 then (spec_l11Option.j0 k l1 true a0_0 a0_1 a0_2 a0_3 a0_4 a0_5 a0_6 a0_7 a0_8 a0_9 l0_10 l0_11) else (spec_l11Option.j0 k l1 (((l1.length : Int) % 8) != 2) a0_0 a0_1 a0_2 a0_3 a0_4 a0_5 a0_6 a0_7 a0_8 a0_9 l0_10 l0_11))) else (some (a0_0, a0_1, a0_2, a0_3, a0_4, a0_5, a0_6, a0_7, a0_8, a0_9, l0_10, true)))))) else (none)
theorem spec_l11Option.mono_l : ∀ k, (∀ y0 y1 y2 y3 y4 y5 y6 y7 y8 y9 y10 y11 y12 y13, LeO (spec_l11Option.j0 k y0 y1 y2 y3 y4 y5 y6 y7 y8 y9 y10 y11 y12 y13) (spec_l11Option.j0 (k + 1) y0 y1 y2 y3 y4 y5 y6 y7 y8 y9 y10 y11 y12 y13)) ∧ (∀ y0 y1 y2 y3 y4 y5 y6 y7 y8 y9 y10 y11 y12 y13, LeO (spec_l11Option.l0 k y0 y1 y2 y3 y4 y5 y6 y7 y8 y9 y10 y11 y12 y13) (spec_l11Option.l0 (k + 1) y0 y1 y2 y3 y4 y5 y6 y7 y8 y9 y10 y11 y12 y13)) ∧ (∀ y0 y1 y2 y3 y4 y5 y6 y7 y8 y9 y10 y11 y12 y13 y14, LeO (spec_l11Option.j2 k y0 y1 y2 y3 y4 y5 y6 y7 y8 y9 y10 y11 y12 y13 y14) (spec_l11Option.j2 (k + 1) y0 y1 y2 y3 y4 y5 y6 y7 y8 y9 y10 y11 y12 y13 y14))
  | 0 => ⟨fun _ _ _ _ _ _ _ _ _ _ _ _ _ _ r h => by simp [spec_l11Option.j0] at h, fun _ _ _ _ _ _ _ _ _ _ _ _ _ _ r h => by simp [spec_l11Option.l0] at h, fun _ _ _ _ _ _ _ _ _ _ _ _ _ _ _ r h => by simp [spec_l11Option.j2] at h⟩
  | k + 1 => by
    obtain ⟨ih0, ih1, ih2⟩ := spec_l11Option.mono_l k
    refine ⟨?_, ?_, ?_⟩
    · intro y0 y1 y2 y3 y4 y5 y6 y7 y8 y9 y10 y11 y12 y13
      unfold spec_l11Option.j0
      repeat' first
      | (with_reducible exact ih0 _ _ _ _ _ _ _ _ _ _ _ _ _ _)
      | (with_reducible exact ih1 _ _ _ _ _ _ _ _ _ _ _ _ _ _)
      | (with_reducible exact ih2 _ _ _ _ _ _ _ _ _ _ _ _ _ _ _)
      | (with_reducible exact spec_l03Num.mono _ _)
      | (with_reducible exact LeO.refl _)
      | (with_reducible exact LeO.none _)
      | (with_reducible refine LeO.ite ?_ ?_)
      | (with_reducible refine LeO.bind ?_ (fun _ => ?_))
      | exact ih0 _ _ _ _ _ _ _ _ _ _ _ _ _ _
      | exact ih1 _ _ _ _ _ _ _ _ _ _ _ _ _ _
      | exact ih2 _ _ _ _ _ _ _ _ _ _ _ _ _ _ _
      | exact spec_l03Num.mono _ _
      | exact LeO.none _
      | refine LeO.ite ?_ ?_
      | refine LeO.bind ?_ (fun _ => ?_)
    · intro y0 y1 y2 y3 y4 y5 y6 y7 y8 y9 y10 y11 y12 y13
      unfold spec_l11Option.l0
      repeat' first
      | (with_reducible exact ih0 _ _ _ _ _ _ _ _ _ _ _ _ _ _)
      | (with_reducible exact ih1 _ _ _ _ _ _ _ _ _ _ _ _ _ _)
      | (with_reducible exact ih2 _ _ _ _ _ _ _ _ _ _ _ _ _ _ _)
      | (with_reducible exact spec_l03Num.mono _ _)
      | (with_reducible exact LeO.refl _)
      | (with_reducible exact LeO.none _)
      | (with_reducible refine LeO.ite ?_ ?_)
      | (with_reducible refine LeO.bind ?_ (fun _ => ?_))
      | exact ih0 _ _ _ _ _ _ _ _ _ _ _ _ _ _
      | exact ih1 _ _ _ _ _ _ _ _ _ _ _ _ _ _
      | exact ih2 _ _ _ _ _ _ _ _ _ _ _ _ _ _ _
      | exact spec_l03Num.mono _ _
      | exact LeO.none _
      | refine LeO.ite ?_ ?_
      | refine LeO.bind ?_ (fun _ => ?_)
    · intro y0 y1 y2 y3 y4 y5 y6 y7 y8 y9 y10 y11 y12 y13 y14
      unfold spec_l11Option.j2
      repeat' first
      | (with_reducible exact ih0 _ _ _ _ _ _ _ _ _ _ _ _ _ _)
      | (with_reducible exact ih1 _ _ _ _ _ _ _ _ _ _ _ _ _ _)
      | (with_reducible exact ih2 _ _ _ _ _ _ _ _ _ _ _ _ _ _ _)
      | (with_reducible exact spec_l03Num.mono _ _)
      | (with_reducible exact LeO.refl _)
      | (with_reducible exact LeO.none _)
      | (with_reducible refine LeO.ite ?_ ?_)
      | (with_reducible refine LeO.bind ?_ (fun _ => ?_))
      | exact ih0 _ _ _ _ _ _ _ _ _ _ _ _ _ _
      | exact ih1 _ _ _ _ _ _ _ _ _ _ _ _ _ _
      | exact ih2 _ _ _ _ _ _ _ _ _ _ _ _ _ _ _
      | exact spec_l03Num.mono _ _
      | exact LeO.none _
      | refine LeO.ite ?_ ?_
      | refine LeO.bind ?_ (fun _ => ?_)
theorem spec_l11Option.mono : ∀ a0 a1 a2 a3 a4 a5 a6 a7 a8 a9 a10 a11 a12 k, LeO (spec_l11Option.f k a0 a1 a2 a3 a4 a5 a6 a7 a8 a9 a10 a11 a12) (spec_l11Option.f (k + 1) a0 a1 a2 a3 a4 a5 a6 a7 a8 a9 a10 a11 a12) := by
 intro a0 a1 a2 a3 a4 a5 a6 a7 a8 a9 a10 a11 a12 k
 obtain ⟨ih0, ih1, ih2⟩ := spec_l11Option.mono_l k
 unfold spec_l11Option.f
 repeat' first
     | (with_reducible exact ih0 _ _ _ _ _ _ _ _ _ _ _ _ _ _)
     | (with_reducible exact ih1 _ _ _ _ _ _ _ _ _ _ _ _ _ _)
     | (with_reducible exact ih2 _ _ _ _ _ _ _ _ _ _ _ _ _ _ _)
     | (with_reducible exact spec_l03Num.mono _ _)
     | (with_reducible exact LeO.refl _)
     | (with_reducible exact LeO.none _)
     | (with_reducible refine LeO.ite ?_ ?_)
     | (with_reducible refine LeO.bind ?_ (fun _ => ?_))
     | exact ih0 _ _ _ _ _ _ _ _ _ _ _ _ _ _
     | exact ih1 _ _ _ _ _ _ _ _ _ _ _ _ _ _
     | exact ih2 _ _ _ _ _ _ _ _ _ _ _ _ _ _ _
     | exact spec_l03Num.mono _ _
     | exact LeO.none _
     | refine LeO.ite ?_ ?_
     | refine LeO.bind ?_ (fun _ => ?_)
def spec_l11Option.T24 : Bool × List (List Nat × List Nat) := (true, [([], []), ([0], [0]), ([], []), ([], []), ([], []), ([4], [4]), ([2, 3, 5], [2, 3, 5]), ([6], [6]), ([], []), ([], []), ([9], [9]), ([], []), ([11], [11]), ([8, 10, 12], [8, 10, 12]), ([13, 7], [13]), ([7, 14], [7, 14]), ([15], [15]), ([1, 16, 14], [1, 16]), ([0, 1, 2, 3, 4, 5, 6, 7, 8, 9, 10, 11, 12, 13, 14, 15, 16, 17], []), ([18, 17, 17, 0, 1, 2, 3, 4, 5, 6, 7, 8, 9, 10, 11, 12, 13, 14, 15, 16, 17], [17, 18])])
def spec_l11Option.B24 : List Nat := [0, 1, 0, 0, 0, 16, 60, 124, 0, 0, 512, 0, 2048, 7936, 16380, 32764, 65532, 131071, 262143, 524287]
theorem spec_l11Option.tab24 : rtab .any (opsOf Try.f51 24) = spec_l11Option.T24 := by kernel_rfl
theorem spec_l11Option.bits24 : waitsOk spec_l11Option.T24.2 spec_l11Option.B24 = true := by kernel_rfl
set_option maxHeartbeats 60000000 in
set_option maxRecDepth 100000 in
theorem spec_l11Option.calls (k : Nat) (a0_0 : Int) (a0_1 : Int) (a0_2 : Int) (a0_3 : Int) (a0_4 : Int) (a0_5 : Int) (a0_6 : Int) (a0_7 : Bool) (a0_8 : Int) (a0_9 : Bool) (P0_10_ : Nat → Prop) (u9000_ : Value) (l0_10 : List (S60)) (A0_11 : Option Addr) (c0_11 : Nat) (l0_11 : List Int) (A1 : Option Addr) (c1 : Nat) (l1 : List Int) (r1 : Int) (r2 : Int) (r3 : Int) (r4 : Int) (r5 : Int) (r6 : Int) (r7 : Int) (r8 : Bool) (r9 : Int) (r10 : Bool) (r11 : List (S60)) (r12 : Bool) (w0 w : World) (hB : Below w0.heap.size w0 w) (ho0_10 : Kd.R k60 60 w w0.heap.size P0_10_ u9000_ l0_10) (hr0_11 : ∀ W_, Kept w W_ (fun k_ => P0_10_ k_) → Kd.C (Kd.int .u8) W_ A0_11 l0_11.length l0_11) (hc0_11 : l0_11.length ≤ c0_11) (hr1 : ∀ W_, Kept w W_ (fun k_ => P0_10_ k_) → Kd.C (Kd.int .u8) W_ A1 l1.length l1) (hc1 : l1.length ≤ c1) (h : spec_l11Option.f k a0_0 a0_1 a0_2 a0_3 a0_4 a0_5 a0_6 a0_7 a0_8 a0_9 l0_10 l0_11 l1 = some (r1, r2, r3, r4, r5, r6, r7, r8, r9, r10, r11, r12)) :
 Calls Try.prog 51 #[.agg #[.int .i64 a0_0, .int .i64 a0_1, .int .i64 a0_2, .int .i64 a0_3, .int .i64 a0_4, .int .i64 a0_5, .int .i64 a0_6, .bool a0_7, .int .i64 a0_8, .bool a0_9, u9000_, .slice A0_11 l0_11.length c0_11], .slice A1 l1.length c1] w fun e w' => ∃ v10_ : Value, e = .returned (.tuple #[.agg #[.int .i64 r1, .int .i64 r2, .int .i64 r3, .int .i64 r4, .int .i64 r5, .int .i64 r6, .int .i64 r7, .bool r8, .int .i64 r9, .bool r10, v10_, .slice A0_11 l0_11.length c0_11], .bool r12]) ∧ Kd.R k60 60 w' w0.heap.size (fun k_ => (P0_10_ k_ ∨ w.heap.size ≤ k_)) v10_ r11 ∧ Below w0.heap.size w0 w' ∧ Kept w w' (fun k_ => P0_10_ k_) := by
 have hu25 := Try.underlying25
 have hu60 := Try.underlying60
 have HO0_10 := Aside0.mk (show Kd.R k60 60 w w0.heap.size (fun k_ => (P0_10_ k_ ∨ w.heap.size ≤ k_)) u9000_ l0_10 from Kd.R_mono ho0_10 (fun k_ hk => (.inl hk)))
 have HR0_11 := Aside0.mk hr0_11
 have HC0_11 := Aside0.mk hc0_11
 clear hr0_11 hc0_11
 have HR1 := Aside0.mk hr1
 have HC1 := Aside0.mk hc1
 clear hr1 hc1
 have HK := Aside0.mk (Kept.refl w (fun k_ => P0_10_ k_))
 have HW0 := Aside0.mk hB.size
 have HB := Aside0.mk hB
 clear hB
 have H : (if 0 < (l1.length : Int) then (if (rd l1 0) = 2 then (if (l1.length : Int) = 4 then (if 2 ≤ (l1.length : Int) then ((spec_l03Num.f k (l1.drop 2)).bind fun t161 => (some (a0_0, a0_1, a0_2, a0_3, a0_4, a0_5, t161, a0_7, a0_8, a0_9, l0_10, true))) else (none)) else (some (a0_0, a0_1, a0_2, a0_3, a0_4, a0_5, a0_6, a0_7, a0_8, a0_9, l0_10, false))) else (if (rd l1 0) = 3 then (if (l1.length : Int) = 3 then (if 2 < (l1.length : Int) then (if (wrap64 (rd l1 2)) > 14 then (some (a0_0, a0_1, a0_2, a0_3, a0_4, a0_5, a0_6, true, 14, a0_9, l0_10, true)) else (some (a0_0, a0_1, a0_2, a0_3, a0_4, a0_5, a0_6, true, wrap64 (rd l1 2), a0_9, l0_10, true))) else (none)) else (some (a0_0, a0_1, a0_2, a0_3, a0_4, a0_5, a0_6, a0_7, a0_8, a0_9, l0_10, false))) else (if (rd l1 0) = 4 then (if (l1.length : Int) = 2 then (some (a0_0, a0_1, a0_2, a0_3, a0_4, a0_5, a0_6, a0_7, a0_8, true, l0_10, true)) else (some (a0_0, a0_1, a0_2, a0_3, a0_4, a0_5, a0_6, a0_7, a0_8, a0_9, l0_10, false))) else (if (rd l1 0) = 5 then (if (l1.length : Int) < 10 then (spec_l11Option.j0 k l1 true a0_0 a0_1 a0_2 a0_3 a0_4 a0_5 a0_6 a0_7 a0_8 a0_9 l0_10 l0_11) else (if (l1.length : Int) > 34 then (spec_l11Option.j0 k l1 true a0_0 a0_1 a0_2 a0_3 a0_4 a0_5 a0_6 a0_7 a0_8 a0_9 l0_10 l0_11) else (spec_l11Option.j0 k l1 (((l1.length : Int) % 8) != 2) a0_0 a0_1 a0_2 a0_3 a0_4 a0_5 a0_6 a0_7 a0_8 a0_9 l0_10 l0_11))) else (some (a0_0, a0_1, a0_2, a0_3, a0_4, a0_5, a0_6, a0_7, a0_8, a0_9, l0_10, true)))))) else (none)) = some (r1, r2, r3, r4, r5, r6, r7, r8, r9, r10, r11, r12) := h
 clear h
 by_cases c3 : 0 < (l1.length : Int)
 rw [if_pos c3] at H
 have c3b0 : decide (0 < (l1.length : Int)) = true := decide_eq_true c3
 have c3b1 : decide (0 < l1.length) = true := decide_eq_true (by omega)
 clear c3
 by_cases c4 : (rd l1 0) = 2
 rw [if_pos c4] at H
 have c4b0 : ((rd l1 0) == 2) = true := beq_iff_eq.mpr c4
 have c4b1 : ((rd l1 0) != 2) = false := bne_eq_false_iff_eq.mpr c4
 clear c4
 by_cases c5 : (l1.length : Int) = 4
 rw [if_pos c5] at H
 have c5b0 : ((l1.length : Int) == 4) = true := beq_iff_eq.mpr c5
 have c5b1 : ((l1.length : Int) != 4) = false := bne_eq_false_iff_eq.mpr c5
 clear c5
 by_cases c6 : 2 ≤ (l1.length : Int)
 rw [if_pos c6] at H
 have c6b0 := eq_true c6
 have c6b1 : decide (2 ≤ (l1.length : Int)) = true := decide_eq_true c6
 clear c6
 obtain ⟨y157, hy157⟩ : ∃ y_ : List Int, y_ = (l1.drop 2) := ⟨_, rfl⟩
 replace H : ((spec_l03Num.f k y157).bind fun t161 => (some (a0_0, a0_1, a0_2, a0_3, a0_4, a0_5, t161, a0_7, a0_8, a0_9, l0_10, true))) = some (r1, r2, r3, r4, r5, r6, r7, r8, r9, r10, r11, r12) := by first | (rw [hy157]; with_reducible exact H) | (have H2_ := (Option.bind_some _ _).symm.trans H; rw [hy157]; with_reducible exact H2_) | (have H2_ := (Option.bind_some _ _).symm.trans H; with_reducible exact H2_) | with_reducible exact H | (rw [hy157]; exact H) | exact H
 have Ny157 := Aside0.mk hy157
 clear hy157
 replace H := Option.bind_eq_some_iff.mp H
 obtain ⟨t161, A70, H⟩ := H
 have A7 := Aside0.mk A70
 clear A70
 simp only [Option.some.injEq, Prod.mk.injEq] at H
 obtain ⟨rfl, rfl, rfl, rfl, rfl, rfl, rfl, rfl, rfl, rfl, rfl, rfl⟩ := H
 rotate_left
 rw [if_neg c6] at H
 exact absurd H (by simp)
 rw [if_neg c5] at H
 have c5b0 : ((l1.length : Int) == 4) = false := beq_eq_false_iff_ne.mpr c5
 have c5b1 : ((l1.length : Int) != 4) = true := bne_iff_ne.mpr c5
 simp only [Option.some.injEq, Prod.mk.injEq] at H
 obtain ⟨rfl, rfl, rfl, rfl, rfl, rfl, rfl, rfl, rfl, rfl, rfl, rfl⟩ := H
 rotate_left
 rw [if_neg c4] at H
 have c4b0 : ((rd l1 0) == 2) = false := beq_eq_false_iff_ne.mpr c4
 have c4b1 : ((rd l1 0) != 2) = true := bne_iff_ne.mpr c4
 by_cases c8 : (rd l1 0) = 3
 rw [if_pos c8] at H
 have c8b0 : ((rd l1 0) == 3) = true := beq_iff_eq.mpr c8
 have c8b1 : ((rd l1 0) != 3) = false := bne_eq_false_iff_eq.mpr c8
 clear c8
 by_cases c9 : (l1.length : Int) = 3
 rw [if_pos c9] at H
 have c9b0 : ((l1.length : Int) == 3) = true := beq_iff_eq.mpr c9
 have c9b1 : ((l1.length : Int) != 3) = false := bne_eq_false_iff_eq.mpr c9
 clear c9
 by_cases c10 : 2 < (l1.length : Int)
 rw [if_pos c10] at H
 have c10b0 : decide (2 < (l1.length : Int)) = true := decide_eq_true c10
 have c10b1 : decide (2 < l1.length) = true := decide_eq_true (by omega)
 clear c10
 by_cases c11 : (wrap64 (rd l1 2)) > 14
 rw [if_pos c11] at H
 have c11b0 : decide (14 < (wrap64 (rd l1 2))) = true := decide_eq_true c11
 clear c11
 simp only [Option.some.injEq, Prod.mk.injEq] at H
 obtain ⟨rfl, rfl, rfl, rfl, rfl, rfl, rfl, rfl, rfl, rfl, rfl, rfl⟩ := H
 rotate_left
 rw [if_neg c11] at H
 have c11b0 : decide (14 < (wrap64 (rd l1 2))) = false := decide_eq_false c11
 clear c11
 simp only [Option.some.injEq, Prod.mk.injEq] at H
 obtain ⟨rfl, rfl, rfl, rfl, rfl, rfl, rfl, rfl, rfl, rfl, rfl, rfl⟩ := H
 rotate_left
 rw [if_neg c10] at H
 exact absurd H (by simp)
 rw [if_neg c9] at H
 have c9b0 : ((l1.length : Int) == 3) = false := beq_eq_false_iff_ne.mpr c9
 have c9b1 : ((l1.length : Int) != 3) = true := bne_iff_ne.mpr c9
 simp only [Option.some.injEq, Prod.mk.injEq] at H
 obtain ⟨rfl, rfl, rfl, rfl, rfl, rfl, rfl, rfl, rfl, rfl, rfl, rfl⟩ := H
 rotate_left
 rw [if_neg c8] at H
 have c8b0 : ((rd l1 0) == 3) = false := beq_eq_false_iff_ne.mpr c8
 have c8b1 : ((rd l1 0) != 3) = true := bne_iff_ne.mpr c8
 by_cases c12 : (rd l1 0) = 4
 rw [if_pos c12] at H
 have c12b0 : ((rd l1 0) == 4) = true := beq_iff_eq.mpr c12
 have c12b1 : ((rd l1 0) != 4) = false := bne_eq_false_iff_eq.mpr c12
 clear c12
 by_cases c13 : (l1.length : Int) = 2
 rw [if_pos c13] at H
 have c13b0 : ((l1.length : Int) == 2) = true := beq_iff_eq.mpr c13
 have c13b1 : ((l1.length : Int) != 2) = false := bne_eq_false_iff_eq.mpr c13
 clear c13
 simp only [Option.some.injEq, Prod.mk.injEq] at H
 obtain ⟨rfl, rfl, rfl, rfl, rfl, rfl, rfl, rfl, rfl, rfl, rfl, rfl⟩ := H
 rotate_left
 rw [if_neg c13] at H
 have c13b0 : ((l1.length : Int) == 2) = false := beq_eq_false_iff_ne.mpr c13
 have c13b1 : ((l1.length : Int) != 2) = true := bne_iff_ne.mpr c13
 simp only [Option.some.injEq, Prod.mk.injEq] at H
 obtain ⟨rfl, rfl, rfl, rfl, rfl, rfl, rfl, rfl, rfl, rfl, rfl, rfl⟩ := H
 rotate_left
 rw [if_neg c12] at H
 have c12b0 : ((rd l1 0) == 4) = false := beq_eq_false_iff_ne.mpr c12
 have c12b1 : ((rd l1 0) != 4) = true := bne_iff_ne.mpr c12
 by_cases c14 : (rd l1 0) = 5
 rw [if_pos c14] at H
 have c14b0 : ((rd l1 0) == 5) = true := beq_iff_eq.mpr c14
 have c14b1 : ((rd l1 0) != 5) = false := bne_eq_false_iff_eq.mpr c14
 clear c14
 have HC15 := Aside0.mk H
 clear H
 rotate_left
 rw [if_neg c14] at H
 have c14b0 : ((rd l1 0) == 5) = false := beq_eq_false_iff_ne.mpr c14
 have c14b1 : ((rd l1 0) != 5) = true := bne_iff_ne.mpr c14
 simp only [Option.some.injEq, Prod.mk.injEq] at H
 obtain ⟨rfl, rfl, rfl, rfl, rfl, rfl, rfl, rfl, rfl, rfl, rfl, rfl⟩ := H
 rotate_left
 rw [if_neg c3] at H
 exact absurd H (by simp)
 all_goals (
 obtain ⟨Ao1001, co1001, eo1001⟩ := Kd.R_slice HO0_10.out
 subst eo1001
 go_enter Try.func51, Try.ntmps51
 )
 {
 go_wp2_with (first | ((with_reducible refine gate_dst (N := 2) rfl ?_); (try (refine gate_guard (by rfl) ?_; dsimp only)); refine box_event ?hg (N := 2) ?hd (cs := #[.int .i64 a0_0, .int .i64 a0_1, .int .i64 a0_2, .int .i64 a0_3, .int .i64 a0_4, .int .i64 a0_5, .int .i64 a0_6, .bool a0_7, .int .i64 a0_8, .bool a0_9, .slice Ao1001 l0_10.length co1001, .slice A0_11 l0_11.length c0_11]) (t := 25) ?hr ?_; (case hd => rfl); (case hg => rfl); (case hr => first | (go_simp; done) | (go_simp; rfl)); intro gb154 hg w1002 hbox hb; have n0_ := Aside0.mk (Kd.R_below (Rh HO0_10) hb); have n1_ := Aside0.mk (Kept.below (S := (fun k_ => P0_10_ k_)) (by repeat (first | (with_reducible first | exact HK.out | apply Kept.alloc | apply Kept.drewN | apply Kept.drew) | exact HK.out)) hb); have n2_ := Aside0.mk (below_step wB hb); have n3_ := Aside0.mk (hbox); have n4_ := Aside0.mk ((by rw [hg]; exact (by first | exact HK.out.1 | exact (show Kept w _ (fun k_ => P0_10_ k_) from by repeat (first | (with_reducible first | exact HK.out | apply Kept.alloc | apply Kept.drewN | apply Kept.drew) | exact HK.out)).1) : w.heap.size ≤ gb154)); have n5_ := Aside0.mk ((by rw [hg]; exact (below_size wB) : w0.heap.size ≤ gb154)); clear HO0_10; clear HK; clear HB; have HO0_10 := n0_; have HK := n1_; have HB := n2_; have BK154 := n3_; have GW154 := n4_; have GE154 := n5_; clear n0_ n1_ n2_ n3_ n4_ n5_; clear hb hbox hg) | ((with_reducible refine gate_dst (N := 4) rfl ?_); (try (refine gate_guard (by rfl) ?_; dsimp only)); refine box_event ?hg (N := 4) ?hd (cs := #[.int .i64 0, .int .i64 0, .int .i64 0, .int .i64 0, .int .i64 0, .int .i64 0, .int .i64 0, .bool false, .int .i64 0, .bool false, .slice none 0 0, .slice none 0 0]) (t := 25) ?hr ?_; (case hd => rfl); (case hg => rfl); (case hr => first | (go_simp; done) | (go_simp; rfl)); intro gb155 hg w1003 hbox hb; have n0_ := Aside0.mk (Kd.R_below (Rh HO0_10) hb); have n1_ := Aside0.mk (blk_below (Bh BK154) hb); have n2_ := Aside0.mk (Kept.below (S := (fun k_ => P0_10_ k_)) (by repeat (first | (with_reducible first | exact HK.out | apply Kept.alloc | apply Kept.drewN | apply Kept.drew | refine Kept.setCell ?_ (.inr GW154.out) _) | exact HK.out)) hb); have n3_ := Aside0.mk (below_step wB hb); have n4_ := Aside0.mk (hbox); have n5_ := Aside0.mk ((by rw [hg]; exact (by first | exact HK.out.1 | exact (show Kept w _ (fun k_ => P0_10_ k_) from by repeat (first | (with_reducible first | exact HK.out | apply Kept.alloc | apply Kept.drewN | apply Kept.drew | refine Kept.setCell ?_ (.inr GW154.out) _) | exact HK.out)).1) : w.heap.size ≤ gb155)); have n6_ := Aside0.mk ((by rw [hg]; exact (below_size wB) : w0.heap.size ≤ gb155)); have n7_ := Aside0.mk ((by rw [hg]; exact Nat.ne_of_lt (blk_lt (Bh BK154)) : gb154 ≠ gb155)); have n8_ := Aside0.mk ((by rw [hg]; exact Nat.ne_of_gt (blk_lt (Bh BK154)) : gb155 ≠ gb154)); clear HO0_10; clear BK154; clear HK; clear HB; have HO0_10 := n0_; have BK154 := n1_; have HK := n2_; have HB := n3_; have BK155 := n4_; have GW155 := n5_; have GE155 := n6_; have NB154_155 := n7_; have NB155_154 := n8_; clear n0_ n1_ n2_ n3_ n4_ n5_ n6_ n7_ n8_; clear hb hbox hg; have p156 : 0 ≤ (0 : Int) := (by omega); have q156 : 0 < (l1.length : Int) := of_decide_eq_true (by first | (with_reducible assumption) | assumption); obtain ⟨ad156, e156, hx156_0⟩ := Kd.at_int (Kd.C_kept_now HR1.out HK.out) 0 p156 q156; cases e156; have qi156 : (0 < l1.length) = True := eq_true (by omega); (try rw [show ((0 : Int)).toNat = 0 from rfl] at hx156_0); (try rw [Addr.add_zero'] at hx156_0); replace p156 := eq_true p156; replace q156 := eq_true q156; have q1004 : (2 : Int) ≤ ((l1.length : Int) : Int) := of_decide_eq_true (by first | (with_reducible assumption) | assumption); obtain ⟨i01004, hi01004, _, hsz1004, _⟩ := info_parts info5; have hroom1004 : l1.length ≤ c1 := HC1.out; have hC1004 : Kd.C (Kd.int .u8) _ (some ad156) l1.length l1 := (Kd.C_kept_now HR1.out HK.out); have hcut1004 := cut_from (P := Try.prog) 22 5 .i64 Try.underlying22 hi01004 1 hsz1004 (some ad156) l1.length c1 2 (by omega) q1004; have hr1004 := Kd.C_drop (m := (2 : Int).toNat) (c := c1) hC1004 (by omega) hroom1004; obtain ⟨A1004, hA1004⟩ : ∃ Aq_, Aq_ = (if c1 = (2 : Int).toNat then (some ad156) else ((some ad156) : Option Addr).map (·.add ((2 : Int).toNat * 1))) := ⟨_, rfl⟩; obtain ⟨c1004, hc1004⟩ : ∃ cq_, cq_ = c1 - (2 : Int).toNat := ⟨_, rfl⟩; have hy1004 : y157.length = l1.length - (2 : Int).toNat := (by rw [Ny157.out, List.length_drop] <;> omega); rw [show (l1).drop (2 : Int).toNat = y157 from Ny157.out.symm] at hr1004; replace hr1004 : Kd.C (Kd.int .u8) _ A1004 y157.length y157 := (by rw [hA1004]; exact hr1004); rw [← hy1004, ← hA1004, ← hc1004] at hcut1004; have HR160 := Aside0.mk hr1004; have HC160 := Aside0.mk (show y157.length ≤ c1004 from by rw [hy1004, hc1004]; exact Nat.sub_le_sub_right hroom1004 _); clear hr1004 hC1004 hroom1004 hi01004 hsz1004 hc1004; have KY1004 := Aside0.mk hy1004; have KA1004 := Aside0.mk hA1004; clear hy1004 hA1004; have KL1004 := Aside0.mk (show 2 ≤ l1.length from by omega); replace q1004 := eq_true q1004) | ((with_reducible refine gate_callee (f := 25) rfl ?_); refine goesL_ (some 18) rfl rfl Try.func25 (by kernel_rfl) rfl #[.slice A1004 y157.length c1004] rfl wT ?_; (with_reducible refine (spec_l03Num.calls k _ _ y157 t161 _ ?side1 ?side2 A7.out).mono ?_); (case side1 => repeat (first | exact (by repeat (first | (with_reducible exact HR160.out) | (with_reducible refine Kd.C_alloc ?_ _) | (with_reducible refine Kd.C_drewN ?_ _) | (with_reducible refine Kd.C_drew ?_) | exact HR160.out)) | (with_reducible refine Kd.C_alloc ?_ _) | (with_reducible refine Kd.C_drewN ?_ _) | (with_reducible refine Kd.C_drew ?_))); (case side2 => exact HC160.out); rintro e w' ⟨rfl, ⟨nd, rfl⟩⟩; refine ⟨_, rfl, ?_⟩; (try (rw [drewN_self w1003]; generalize hq_ : World.drewN w1003 _ = w1003; have n0_ := Aside0.mk (Kd.R_at hq_ HO0_10.out); have n1_ := Aside0.mk (blk_at hq_ BK154.out); have n2_ := Aside0.mk (blk_at hq_ BK155.out); have n3_ := Aside0.mk (Kd.C_at hq_ HR160.out); have n4_ := Aside0.mk (kept_at hq_ HK.out); have n5_ := Aside0.mk (below_at hq_ HB.out); clear hq_ HO0_10 BK154 BK155 HR160 HK HB; have HO0_10 := n0_; have BK154 := n1_; have BK155 := n2_; have HR160 := n3_; have HK := n4_; have HB := n5_; clear n0_ n1_ n2_ n3_ n4_ n5_; (try (obtain ⟨⟨hcyBK154_0, hcyBK154_1, hcyBK154_2, hcyBK154_3, hcyBK154_4, hcyBK154_5, hcyBK154_6, hcyBK154_7, hcyBK154_8, hcyBK154_9, hcyBK154_10, hcyBK154_11⟩, hfyBK154_0, hfyBK154_1, hfyBK154_2, hfyBK154_3, hfyBK154_4, hfyBK154_5, hfyBK154_6, hfyBK154_7, hfyBK154_8, hfyBK154_9, hfyBK154_10, hfyBK154_11⟩ := cells12 BK154.out)); (try (obtain ⟨⟨hcyBK155_0, hcyBK155_1, hcyBK155_2, hcyBK155_3, hcyBK155_4, hcyBK155_5, hcyBK155_6, hcyBK155_7, hcyBK155_8, hcyBK155_9, hcyBK155_10, hcyBK155_11⟩, hfyBK155_0, hfyBK155_1, hfyBK155_2, hfyBK155_3, hfyBK155_4, hfyBK155_5, hfyBK155_6, hfyBK155_7, hfyBK155_8, hfyBK155_9, hfyBK155_10, hfyBK155_11⟩ := cells12 BK155.out)))); have hnb1005 := NB154_155.out; have hnc1005 := NB155_154.out; obtain ⟨⟨hcz1006_0, hcz1006_1, hcz1006_2, hcz1006_3, hcz1006_4, hcz1006_5, hcz1006_6, hcz1006_7, hcz1006_8, hcz1006_9, hcz1006_10, hcz1006_11⟩, hfz1006_0, hfz1006_1, hfz1006_2, hfz1006_3, hfz1006_4, hfz1006_5, hfz1006_6, hfz1006_7, hfz1006_8, hfz1006_9, hfz1006_10, hfz1006_11⟩ := cells12 BK154.out; obtain ⟨⟨hcz1007_0, hcz1007_1, hcz1007_2, hcz1007_3, hcz1007_4, hcz1007_5, hcz1007_6, hcz1007_7, hcz1007_8, hcz1007_9, hcz1007_10, hcz1007_11⟩, hfz1007_0, hfz1007_1, hfz1007_2, hfz1007_3, hfz1007_4, hfz1007_5, hfz1007_6, hfz1007_7, hfz1007_8, hfz1007_9, hfz1007_10, hfz1007_11⟩ := cells12 BK155.out))
 refine bodyPost_ret (results_ct rfl _ _ gb155 25 #[.int .i64 a0_0, .int .i64 a0_1, .int .i64 a0_2, .int .i64 a0_3, .int .i64 a0_4, .int .i64 a0_5, .int .i64 t161, .bool a0_7, .int .i64 a0_8, .bool a0_9, .slice Ao1001 l0_10.length co1001, .slice A0_11 l0_11.length c0_11] (0, 0) _ rfl (by (with_reducible repeat (first | refine blk_drewN ?_ _ | refine blk_drew ?_ | refine blk_alloc ?_ _)); refine blk_put (cs := #[.int .i64 a0_0, .int .i64 a0_1, .int .i64 a0_2, .int .i64 a0_3, .int .i64 a0_4, .int .i64 a0_5, .int .i64 t161, .bool a0_7, .int .i64 a0_8, .bool a0_9, .slice Ao1001 l0_10.length co1001, .slice none 0 0]) ?_ 11 _ rfl; (with_reducible repeat (first | refine blk_drewN ?_ _ | refine blk_drew ?_ | refine blk_alloc ?_ _)); refine blk_put (cs := #[.int .i64 a0_0, .int .i64 a0_1, .int .i64 a0_2, .int .i64 a0_3, .int .i64 a0_4, .int .i64 a0_5, .int .i64 t161, .bool a0_7, .int .i64 a0_8, .bool a0_9, .slice none 0 0, .slice none 0 0]) ?_ 10 _ rfl; (with_reducible repeat (first | refine blk_drewN ?_ _ | refine blk_drew ?_ | refine blk_alloc ?_ _)); refine blk_put (cs := #[.int .i64 a0_0, .int .i64 a0_1, .int .i64 a0_2, .int .i64 a0_3, .int .i64 a0_4, .int .i64 a0_5, .int .i64 t161, .bool a0_7, .int .i64 a0_8, .bool false, .slice none 0 0, .slice none 0 0]) ?_ 9 _ rfl; (with_reducible repeat (first | refine blk_drewN ?_ _ | refine blk_drew ?_ | refine blk_alloc ?_ _)); refine blk_put (cs := #[.int .i64 a0_0, .int .i64 a0_1, .int .i64 a0_2, .int .i64 a0_3, .int .i64 a0_4, .int .i64 a0_5, .int .i64 t161, .bool a0_7, .int .i64 0, .bool false, .slice none 0 0, .slice none 0 0]) ?_ 8 _ rfl; (with_reducible repeat (first | refine blk_drewN ?_ _ | refine blk_drew ?_ | refine blk_alloc ?_ _)); refine blk_put (cs := #[.int .i64 a0_0, .int .i64 a0_1, .int .i64 a0_2, .int .i64 a0_3, .int .i64 a0_4, .int .i64 a0_5, .int .i64 t161, .bool false, .int .i64 0, .bool false, .slice none 0 0, .slice none 0 0]) ?_ 7 _ rfl; (with_reducible repeat (first | refine blk_drewN ?_ _ | refine blk_drew ?_ | refine blk_alloc ?_ _)); refine blk_put (cs := #[.int .i64 a0_0, .int .i64 a0_1, .int .i64 a0_2, .int .i64 a0_3, .int .i64 a0_4, .int .i64 a0_5, .int .i64 0, .bool false, .int .i64 0, .bool false, .slice none 0 0, .slice none 0 0]) ?_ 6 _ rfl; (with_reducible repeat (first | refine blk_drewN ?_ _ | refine blk_drew ?_ | refine blk_alloc ?_ _)); refine blk_put (cs := #[.int .i64 a0_0, .int .i64 a0_1, .int .i64 a0_2, .int .i64 a0_3, .int .i64 a0_4, .int .i64 0, .int .i64 0, .bool false, .int .i64 0, .bool false, .slice none 0 0, .slice none 0 0]) ?_ 5 _ rfl; (with_reducible repeat (first | refine blk_drewN ?_ _ | refine blk_drew ?_ | refine blk_alloc ?_ _)); refine blk_put (cs := #[.int .i64 a0_0, .int .i64 a0_1, .int .i64 a0_2, .int .i64 a0_3, .int .i64 0, .int .i64 0, .int .i64 0, .bool false, .int .i64 0, .bool false, .slice none 0 0, .slice none 0 0]) ?_ 4 _ rfl; (with_reducible repeat (first | refine blk_drewN ?_ _ | refine blk_drew ?_ | refine blk_alloc ?_ _)); refine blk_put (cs := #[.int .i64 a0_0, .int .i64 a0_1, .int .i64 a0_2, .int .i64 0, .int .i64 0, .int .i64 0, .int .i64 0, .bool false, .int .i64 0, .bool false, .slice none 0 0, .slice none 0 0]) ?_ 3 _ rfl; (with_reducible repeat (first | refine blk_drewN ?_ _ | refine blk_drew ?_ | refine blk_alloc ?_ _)); refine blk_put (cs := #[.int .i64 a0_0, .int .i64 a0_1, .int .i64 0, .int .i64 0, .int .i64 0, .int .i64 0, .int .i64 0, .bool false, .int .i64 0, .bool false, .slice none 0 0, .slice none 0 0]) ?_ 2 _ rfl; (with_reducible repeat (first | refine blk_drewN ?_ _ | refine blk_drew ?_ | refine blk_alloc ?_ _)); refine blk_put (cs := #[.int .i64 a0_0, .int .i64 0, .int .i64 0, .int .i64 0, .int .i64 0, .int .i64 0, .int .i64 0, .bool false, .int .i64 0, .bool false, .slice none 0 0, .slice none 0 0]) ?_ 1 _ rfl; (with_reducible repeat (first | refine blk_drewN ?_ _ | refine blk_drew ?_ | refine blk_alloc ?_ _)); refine blk_put (cs := #[.int .i64 0, .int .i64 0, .int .i64 0, .int .i64 0, .int .i64 0, .int .i64 0, .int .i64 0, .bool false, .int .i64 0, .bool false, .slice none 0 0, .slice none 0 0]) ?_ 0 _ rfl; (with_reducible repeat (first | refine blk_drewN ?_ _ | refine blk_drew ?_ | refine blk_alloc ?_ _)); refine blk_far ?_ NB155_154.out _; (with_reducible repeat (first | refine blk_drewN ?_ _ | refine blk_drew ?_ | refine blk_alloc ?_ _)); exact BK155.out) Try.underlying25 rfl (by kernel_rfl)) rfl ?_
 exact ⟨_, by first | rfl | (simp [errW_none, errW_some] <;> rfl) | (simp [*, errW_none, errW_some] <;> rfl), by (with_reducible repeat (first | apply Kd.R_alloc | apply Kd.R_drewN | apply Kd.R_drew)); exact Kd.R_mono (Kd.R_far (p := ⟨gb155, 11, none⟩) (Kd.R_far (p := ⟨gb155, 10, none⟩) (Kd.R_far (p := ⟨gb155, 9, none⟩) (Kd.R_far (p := ⟨gb155, 8, none⟩) (Kd.R_far (p := ⟨gb155, 7, none⟩) (Kd.R_far (p := ⟨gb155, 6, none⟩) (Kd.R_far (p := ⟨gb155, 5, none⟩) (Kd.R_far (p := ⟨gb155, 4, none⟩) (Kd.R_far (p := ⟨gb155, 3, none⟩) (Kd.R_far (p := ⟨gb155, 2, none⟩) (Kd.R_far (p := ⟨gb155, 1, none⟩) (Kd.R_far (p := ⟨gb155, 0, none⟩) (Kd.R_far (p := ⟨gb154, 6, none⟩) (Kd.R_types (Kd.R_types HO0_10.out BK154.out (by decide)) BK155.out (by decide)) (fun _ hk => hk.1.2) (.int .i64 t161)) (fun _ hk => hk.2) (.int .i64 a0_0)) (fun _ hk => hk.2) (.int .i64 a0_1)) (fun _ hk => hk.2) (.int .i64 a0_2)) (fun _ hk => hk.2) (.int .i64 a0_3)) (fun _ hk => hk.2) (.int .i64 a0_4)) (fun _ hk => hk.2) (.int .i64 a0_5)) (fun _ hk => hk.2) (.int .i64 t161)) (fun _ hk => hk.2) (.bool a0_7)) (fun _ hk => hk.2) (.int .i64 a0_8)) (fun _ hk => hk.2) (.bool a0_9)) (fun _ hk => hk.2) (.slice Ao1001 l0_10.length co1001)) (fun _ hk => hk.2) (.slice A0_11 l0_11.length c0_11)) (fun _ hk => hk.1.1), wB, by repeat (first | (with_reducible first | exact HK.out | apply Kept.alloc | apply Kept.drewN | apply Kept.drew | refine Kept.setCell ?_ (.inr GW154.out) _ | refine Kept.setCell ?_ (.inr GW155.out) _) | exact HK.out)⟩
 }
 {
 go_wp2_with (first | ((with_reducible refine gate_dst (N := 2) rfl ?_); (try (refine gate_guard (by rfl) ?_; dsimp only)); refine box_event ?hg (N := 2) ?hd (cs := #[.int .i64 a0_0, .int .i64 a0_1, .int .i64 a0_2, .int .i64 a0_3, .int .i64 a0_4, .int .i64 a0_5, .int .i64 a0_6, .bool a0_7, .int .i64 a0_8, .bool a0_9, .slice Ao1001 l0_10.length co1001, .slice A0_11 l0_11.length c0_11]) (t := 25) ?hr ?_; (case hd => rfl); (case hg => rfl); (case hr => first | (go_simp; done) | (go_simp; rfl)); intro gb154 hg w1002 hbox hb; have n0_ := Aside0.mk (Kd.R_below (Rh HO0_10) hb); have n1_ := Aside0.mk (Kept.below (S := (fun k_ => P0_10_ k_)) (by repeat (first | (with_reducible first | exact HK.out | apply Kept.alloc | apply Kept.drewN | apply Kept.drew) | exact HK.out)) hb); have n2_ := Aside0.mk (below_step wB hb); have n3_ := Aside0.mk (hbox); have n4_ := Aside0.mk ((by rw [hg]; exact (by first | exact HK.out.1 | exact (show Kept w _ (fun k_ => P0_10_ k_) from by repeat (first | (with_reducible first | exact HK.out | apply Kept.alloc | apply Kept.drewN | apply Kept.drew) | exact HK.out)).1) : w.heap.size ≤ gb154)); have n5_ := Aside0.mk ((by rw [hg]; exact (below_size wB) : w0.heap.size ≤ gb154)); clear HO0_10; clear HK; clear HB; have HO0_10 := n0_; have HK := n1_; have HB := n2_; have BK154 := n3_; have GW154 := n4_; have GE154 := n5_; clear n0_ n1_ n2_ n3_ n4_ n5_; clear hb hbox hg) | ((with_reducible refine gate_dst (N := 4) rfl ?_); (try (refine gate_guard (by rfl) ?_; dsimp only)); refine box_event ?hg (N := 4) ?hd (cs := #[.int .i64 0, .int .i64 0, .int .i64 0, .int .i64 0, .int .i64 0, .int .i64 0, .int .i64 0, .bool false, .int .i64 0, .bool false, .slice none 0 0, .slice none 0 0]) (t := 25) ?hr ?_; (case hd => rfl); (case hg => rfl); (case hr => first | (go_simp; done) | (go_simp; rfl)); intro gb155 hg w1003 hbox hb; have n0_ := Aside0.mk (Kd.R_below (Rh HO0_10) hb); have n1_ := Aside0.mk (blk_below (Bh BK154) hb); have n2_ := Aside0.mk (Kept.below (S := (fun k_ => P0_10_ k_)) (by repeat (first | (with_reducible first | exact HK.out | apply Kept.alloc | apply Kept.drewN | apply Kept.drew | refine Kept.setCell ?_ (.inr GW154.out) _) | exact HK.out)) hb); have n3_ := Aside0.mk (below_step wB hb); have n4_ := Aside0.mk (hbox); have n5_ := Aside0.mk ((by rw [hg]; exact (by first | exact HK.out.1 | exact (show Kept w _ (fun k_ => P0_10_ k_) from by repeat (first | (with_reducible first | exact HK.out | apply Kept.alloc | apply Kept.drewN | apply Kept.drew | refine Kept.setCell ?_ (.inr GW154.out) _) | exact HK.out)).1) : w.heap.size ≤ gb155)); have n6_ := Aside0.mk ((by rw [hg]; exact (below_size wB) : w0.heap.size ≤ gb155)); have n7_ := Aside0.mk ((by rw [hg]; exact Nat.ne_of_lt (blk_lt (Bh BK154)) : gb154 ≠ gb155)); have n8_ := Aside0.mk ((by rw [hg]; exact Nat.ne_of_gt (blk_lt (Bh BK154)) : gb155 ≠ gb154)); clear HO0_10; clear BK154; clear HK; clear HB; have HO0_10 := n0_; have BK154 := n1_; have HK := n2_; have HB := n3_; have BK155 := n4_; have GW155 := n5_; have GE155 := n6_; have NB154_155 := n7_; have NB155_154 := n8_; clear n0_ n1_ n2_ n3_ n4_ n5_ n6_ n7_ n8_; clear hb hbox hg; have p156 : 0 ≤ (0 : Int) := (by omega); have q156 : 0 < (l1.length : Int) := of_decide_eq_true (by first | (with_reducible assumption) | assumption); obtain ⟨ad156, e156, hx156_0⟩ := Kd.at_int (Kd.C_kept_now HR1.out HK.out) 0 p156 q156; cases e156; have qi156 : (0 < l1.length) = True := eq_true (by omega); (try rw [show ((0 : Int)).toNat = 0 from rfl] at hx156_0); (try rw [Addr.add_zero'] at hx156_0); replace p156 := eq_true p156; replace q156 := eq_true q156; have hnb1004 := NB154_155.out; have hnc1004 := NB155_154.out; obtain ⟨⟨hcz1005_0, hcz1005_1, hcz1005_2, hcz1005_3, hcz1005_4, hcz1005_5, hcz1005_6, hcz1005_7, hcz1005_8, hcz1005_9, hcz1005_10, hcz1005_11⟩, hfz1005_0, hfz1005_1, hfz1005_2, hfz1005_3, hfz1005_4, hfz1005_5, hfz1005_6, hfz1005_7, hfz1005_8, hfz1005_9, hfz1005_10, hfz1005_11⟩ := cells12 BK154.out; obtain ⟨⟨hcz1006_0, hcz1006_1, hcz1006_2, hcz1006_3, hcz1006_4, hcz1006_5, hcz1006_6, hcz1006_7, hcz1006_8, hcz1006_9, hcz1006_10, hcz1006_11⟩, hfz1006_0, hfz1006_1, hfz1006_2, hfz1006_3, hfz1006_4, hfz1006_5, hfz1006_6, hfz1006_7, hfz1006_8, hfz1006_9, hfz1006_10, hfz1006_11⟩ := cells12 BK155.out) | ((with_reducible refine gate_store (t := 25) (p := 4) rfl ?_); (try (rw [drewN_self w1003]; generalize hq_ : World.drewN w1003 _ = w1003; have n0_ := Aside0.mk (Kd.R_at hq_ HO0_10.out); have n1_ := Aside0.mk (blk_at hq_ BK154.out); have n2_ := Aside0.mk (blk_at hq_ BK155.out); have n3_ := Aside0.mk (kept_at hq_ HK.out); have n4_ := Aside0.mk (below_at hq_ HB.out); clear hq_ HO0_10 BK154 BK155 HK HB; have HO0_10 := n0_; have BK154 := n1_; have BK155 := n2_; have HK := n3_; have HB := n4_; clear n0_ n1_ n2_ n3_ n4_; (try (obtain ⟨⟨hcyBK154_0, hcyBK154_1, hcyBK154_2, hcyBK154_3, hcyBK154_4, hcyBK154_5, hcyBK154_6, hcyBK154_7, hcyBK154_8, hcyBK154_9, hcyBK154_10, hcyBK154_11⟩, hfyBK154_0, hfyBK154_1, hfyBK154_2, hfyBK154_3, hfyBK154_4, hfyBK154_5, hfyBK154_6, hfyBK154_7, hfyBK154_8, hfyBK154_9, hfyBK154_10, hfyBK154_11⟩ := cells12 BK154.out)); (try (obtain ⟨⟨hcyBK155_0, hcyBK155_1, hcyBK155_2, hcyBK155_3, hcyBK155_4, hcyBK155_5, hcyBK155_6, hcyBK155_7, hcyBK155_8, hcyBK155_9, hcyBK155_10, hcyBK155_11⟩, hfyBK155_0, hfyBK155_1, hfyBK155_2, hfyBK155_3, hfyBK155_4, hfyBK155_5, hfyBK155_6, hfyBK155_7, hfyBK155_8, hfyBK155_9, hfyBK155_10, hfyBK155_11⟩ := cells12 BK155.out)))); refine store_event (t := 25) (p := 4) (v := ?_) (w1 := (put12 w1003 gb155 (.int .i64 a0_0) (.int .i64 a0_1) (.int .i64 a0_2) (.int .i64 a0_3) (.int .i64 a0_4) (.int .i64 a0_5) (.int .i64 a0_6) (.bool a0_7) (.int .i64 a0_8) (.bool a0_9) (.slice Ao1001 l0_10.length co1001) (.slice A0_11 l0_11.length c0_11))) ?hg ?ho ?hn ?hr ?_; (case ho => rfl); (case hg => rfl); (case hn => rfl); (case hr => first | (go_simp; done) | (go_simp; rfl)); intro w1007 hw; have n0_ : Aside0 (Kd.R k60 60 w1007 w0.heap.size (fun k_ => (P0_10_ k_ ∨ w.heap.size ≤ k_)) (.slice Ao1001 l0_10.length co1001) l0_10) := ⟨(by rw [hw]; exact (by (with_reducible repeat (first | apply Kd.R_alloc | apply Kd.R_drewN | apply Kd.R_drew)); exact Kd.R_mono (Kd.R_step (Kd.R_types HO0_10.out BK155.out (by decide)) (fun _ hk _ => far12 hk.2)) (fun _ hk => hk.1)))⟩; have n1_ : Aside0 (w1007.heap[gb154]? = some (.cells #[.int .i64 a0_0, .int .i64 a0_1, .int .i64 a0_2, .int .i64 a0_3, .int .i64 a0_4, .int .i64 a0_5, .int .i64 a0_6, .bool a0_7, .int .i64 a0_8, .bool a0_9, .slice Ao1001 l0_10.length co1001, .slice A0_11 l0_11.length c0_11] 25 (0, 0))) := ⟨(by rw [hw]; exact (by refine (far12 NB154_155.out).trans ?_; (with_reducible repeat (first | refine blk_drewN ?_ _ | refine blk_drew ?_ | refine blk_alloc ?_ _)); exact BK154.out))⟩; have n2_ : Aside0 (w1007.heap[gb155]? = some (.cells #[.int .i64 a0_0, .int .i64 a0_1, .int .i64 a0_2, .int .i64 a0_3, .int .i64 a0_4, .int .i64 a0_5, .int .i64 a0_6, .bool a0_7, .int .i64 a0_8, .bool a0_9, .slice Ao1001 l0_10.length co1001, .slice A0_11 l0_11.length c0_11] 25 (0, 0))) := ⟨(by rw [hw]; exact (by apply set12; (with_reducible repeat (first | refine blk_drewN ?_ _ | refine blk_drew ?_ | refine blk_alloc ?_ _)); exact BK155.out))⟩; have n3_ : Aside0 (Kept w w1007 (fun k_ => P0_10_ k_)) := ⟨(by rw [hw]; exact (by repeat (first | (with_reducible first | exact HK.out | apply Kept.alloc | apply Kept.drewN | apply Kept.drew | refine Kept.setCell ?_ (.inr GW154.out) _ | refine Kept.setCell ?_ (.inr GW155.out) _) | exact HK.out)))⟩; have n4_ : Aside0 (Below w0.heap.size w0 w1007) := ⟨(by rw [hw]; exact wB)⟩; clear hw; clear HO0_10; clear BK154; clear BK155; clear HK; clear HB; have HO0_10 := n0_; have BK154 := n1_; have BK155 := n2_; have HK := n3_; have HB := n4_; clear n0_ n1_ n2_ n3_ n4_))
 refine bodyPost_ret (results_ct rfl _ _ gb155 25 #[.int .i64 a0_0, .int .i64 a0_1, .int .i64 a0_2, .int .i64 a0_3, .int .i64 a0_4, .int .i64 a0_5, .int .i64 a0_6, .bool a0_7, .int .i64 a0_8, .bool a0_9, .slice Ao1001 l0_10.length co1001, .slice A0_11 l0_11.length c0_11] (0, 0) _ rfl (Bh BK155) Try.underlying25 rfl (by kernel_rfl)) rfl ?_
 exact ⟨_, by first | rfl | (simp [errW_none, errW_some] <;> rfl) | (simp [*, errW_none, errW_some] <;> rfl), by (with_reducible repeat (first | apply Kd.R_alloc | apply Kd.R_drewN | apply Kd.R_drew)); exact HO0_10.out, wB, by repeat (first | (with_reducible first | exact HK.out | apply Kept.alloc | apply Kept.drewN | apply Kept.drew | refine Kept.setCell ?_ (.inr GW154.out) _ | refine Kept.setCell ?_ (.inr GW155.out) _) | exact HK.out)⟩
 }
 {
 go_wp2_with (first | ((with_reducible refine gate_dst (N := 2) rfl ?_); (try (refine gate_guard (by rfl) ?_; dsimp only)); refine box_event ?hg (N := 2) ?hd (cs := #[.int .i64 a0_0, .int .i64 a0_1, .int .i64 a0_2, .int .i64 a0_3, .int .i64 a0_4, .int .i64 a0_5, .int .i64 a0_6, .bool a0_7, .int .i64 a0_8, .bool a0_9, .slice Ao1001 l0_10.length co1001, .slice A0_11 l0_11.length c0_11]) (t := 25) ?hr ?_; (case hd => rfl); (case hg => rfl); (case hr => first | (go_simp; done) | (go_simp; rfl)); intro gb154 hg w1002 hbox hb; have n0_ := Aside0.mk (Kd.R_below (Rh HO0_10) hb); have n1_ := Aside0.mk (Kept.below (S := (fun k_ => P0_10_ k_)) (by repeat (first | (with_reducible first | exact HK.out | apply Kept.alloc | apply Kept.drewN | apply Kept.drew) | exact HK.out)) hb); have n2_ := Aside0.mk (below_step wB hb); have n3_ := Aside0.mk (hbox); have n4_ := Aside0.mk ((by rw [hg]; exact (by first | exact HK.out.1 | exact (show Kept w _ (fun k_ => P0_10_ k_) from by repeat (first | (with_reducible first | exact HK.out | apply Kept.alloc | apply Kept.drewN | apply Kept.drew) | exact HK.out)).1) : w.heap.size ≤ gb154)); have n5_ := Aside0.mk ((by rw [hg]; exact (below_size wB) : w0.heap.size ≤ gb154)); clear HO0_10; clear HK; clear HB; have HO0_10 := n0_; have HK := n1_; have HB := n2_; have BK154 := n3_; have GW154 := n4_; have GE154 := n5_; clear n0_ n1_ n2_ n3_ n4_ n5_; clear hb hbox hg) | ((with_reducible refine gate_dst (N := 4) rfl ?_); (try (refine gate_guard (by rfl) ?_; dsimp only)); refine box_event ?hg (N := 4) ?hd (cs := #[.int .i64 0, .int .i64 0, .int .i64 0, .int .i64 0, .int .i64 0, .int .i64 0, .int .i64 0, .bool false, .int .i64 0, .bool false, .slice none 0 0, .slice none 0 0]) (t := 25) ?hr ?_; (case hd => rfl); (case hg => rfl); (case hr => first | (go_simp; done) | (go_simp; rfl)); intro gb155 hg w1003 hbox hb; have n0_ := Aside0.mk (Kd.R_below (Rh HO0_10) hb); have n1_ := Aside0.mk (blk_below (Bh BK154) hb); have n2_ := Aside0.mk (Kept.below (S := (fun k_ => P0_10_ k_)) (by repeat (first | (with_reducible first | exact HK.out | apply Kept.alloc | apply Kept.drewN | apply Kept.drew | refine Kept.setCell ?_ (.inr GW154.out) _) | exact HK.out)) hb); have n3_ := Aside0.mk (below_step wB hb); have n4_ := Aside0.mk (hbox); have n5_ := Aside0.mk ((by rw [hg]; exact (by first | exact HK.out.1 | exact (show Kept w _ (fun k_ => P0_10_ k_) from by repeat (first | (with_reducible first | exact HK.out | apply Kept.alloc | apply Kept.drewN | apply Kept.drew | refine Kept.setCell ?_ (.inr GW154.out) _) | exact HK.out)).1) : w.heap.size ≤ gb155)); have n6_ := Aside0.mk ((by rw [hg]; exact (below_size wB) : w0.heap.size ≤ gb155)); have n7_ := Aside0.mk ((by rw [hg]; exact Nat.ne_of_lt (blk_lt (Bh BK154)) : gb154 ≠ gb155)); have n8_ := Aside0.mk ((by rw [hg]; exact Nat.ne_of_gt (blk_lt (Bh BK154)) : gb155 ≠ gb154)); clear HO0_10; clear BK154; clear HK; clear HB; have HO0_10 := n0_; have BK154 := n1_; have HK := n2_; have HB := n3_; have BK155 := n4_; have GW155 := n5_; have GE155 := n6_; have NB154_155 := n7_; have NB155_154 := n8_; clear n0_ n1_ n2_ n3_ n4_ n5_ n6_ n7_ n8_; clear hb hbox hg; have p156 : 0 ≤ (0 : Int) := (by omega); have q156 : 0 < (l1.length : Int) := of_decide_eq_true (by first | (with_reducible assumption) | assumption); obtain ⟨ad156, e156, hx156_0⟩ := Kd.at_int (Kd.C_kept_now HR1.out HK.out) 0 p156 q156; cases e156; have qi156 : (0 < l1.length) = True := eq_true (by omega); (try rw [show ((0 : Int)).toNat = 0 from rfl] at hx156_0); (try rw [Addr.add_zero'] at hx156_0); replace p156 := eq_true p156; replace q156 := eq_true q156; have hnb1004 := NB154_155.out; have hnc1004 := NB155_154.out; obtain ⟨⟨hcz1005_0, hcz1005_1, hcz1005_2, hcz1005_3, hcz1005_4, hcz1005_5, hcz1005_6, hcz1005_7, hcz1005_8, hcz1005_9, hcz1005_10, hcz1005_11⟩, hfz1005_0, hfz1005_1, hfz1005_2, hfz1005_3, hfz1005_4, hfz1005_5, hfz1005_6, hfz1005_7, hfz1005_8, hfz1005_9, hfz1005_10, hfz1005_11⟩ := cells12 BK154.out; have p162 : 0 ≤ (2 : Int) := (by omega); have q162 : 2 < (l1.length : Int) := of_decide_eq_true (by first | (with_reducible assumption) | assumption); obtain ⟨ad162, e162, hx162_0⟩ := Kd.at_int (Kd.C_kept_now HR1.out (show Kept w (w1003.setCell ⟨gb154, 7, none⟩ (.bool true)) (fun k_ => P0_10_ k_) from by repeat (first | (with_reducible first | exact HK.out | apply Kept.alloc | apply Kept.drewN | apply Kept.drew | refine Kept.setCell ?_ (.inr GW154.out) _ | refine Kept.setCell ?_ (.inr GW155.out) _) | exact HK.out))) 2 p162 q162; obtain rfl : ad156 = ad162 := (by injection e162); (try simp only [show (2 : Int).toNat = 2 from rfl, Nat.reduceMul, Nat.reduceEqDiff, Go.Addr.add, ↓reduceIte] at hx162_0); have qi162 : (2 < l1.length) = True := eq_true (by omega); (try rw [show ((2 : Int)).toNat = 2 from rfl] at hx162_0); replace p162 := eq_true p162; replace q162 := eq_true q162) | ((with_reducible refine gate_store (t := 2) (p := 31) rfl ?_); (try (rw [drewN_self w1003]; generalize hq_ : World.drewN w1003 _ = w1003; have n0_ := Aside0.mk (Kd.R_at hq_ HO0_10.out); have n1_ := Aside0.mk (blk_at hq_ BK154.out); have n2_ := Aside0.mk (blk_at hq_ BK155.out); have n3_ := Aside0.mk (kept_at hq_ HK.out); have n4_ := Aside0.mk (below_at hq_ HB.out); clear hq_ HO0_10 BK154 BK155 HK HB; have HO0_10 := n0_; have BK154 := n1_; have BK155 := n2_; have HK := n3_; have HB := n4_; clear n0_ n1_ n2_ n3_ n4_; (try (obtain ⟨⟨hcyBK154_0, hcyBK154_1, hcyBK154_2, hcyBK154_3, hcyBK154_4, hcyBK154_5, hcyBK154_6, hcyBK154_7, hcyBK154_8, hcyBK154_9, hcyBK154_10, hcyBK154_11⟩, hfyBK154_0, hfyBK154_1, hfyBK154_2, hfyBK154_3, hfyBK154_4, hfyBK154_5, hfyBK154_6, hfyBK154_7, hfyBK154_8, hfyBK154_9, hfyBK154_10, hfyBK154_11⟩ := cells12 BK154.out)); (try (obtain ⟨⟨hcyBK155_0, hcyBK155_1, hcyBK155_2, hcyBK155_3, hcyBK155_4, hcyBK155_5, hcyBK155_6, hcyBK155_7, hcyBK155_8, hcyBK155_9, hcyBK155_10, hcyBK155_11⟩, hfyBK155_0, hfyBK155_1, hfyBK155_2, hfyBK155_3, hfyBK155_4, hfyBK155_5, hfyBK155_6, hfyBK155_7, hfyBK155_8, hfyBK155_9, hfyBK155_10, hfyBK155_11⟩ := cells12 BK155.out)))); refine store_event (t := 2) (p := 31) (v := ?_) (w1 := ((w1003.setCell ⟨gb154, 7, none⟩ (.bool true)).setCell ⟨gb154, 8, none⟩ (.int .i64 (wrap64 (rd l1 2))))) ?hg ?ho ?hn ?hr ?_; (case ho => rfl); (case hg => rfl); (case hn => rfl); (case hr => first | (go_simp; done) | (go_simp; rfl)); intro w1006 hw; have n0_ : Aside0 (Kd.R k60 60 w1006 w0.heap.size (fun k_ => (P0_10_ k_ ∨ w.heap.size ≤ k_)) (.slice Ao1001 l0_10.length co1001) l0_10) := ⟨(by rw [hw]; exact (by (with_reducible repeat (first | apply Kd.R_alloc | apply Kd.R_drewN | apply Kd.R_drew)); exact Kd.R_mono (Kd.R_far (p := ⟨gb154, 8, none⟩) (Kd.R_far (p := ⟨gb154, 7, none⟩) (Kd.R_types HO0_10.out BK154.out (by decide)) (fun _ hk => hk.2) (.bool true)) (fun _ hk => hk.2) (.int .i64 (wrap64 (rd l1 2)))) (fun _ hk => hk.1)))⟩; have n1_ : Aside0 (w1006.heap[gb154]? = some (.cells #[.int .i64 a0_0, .int .i64 a0_1, .int .i64 a0_2, .int .i64 a0_3, .int .i64 a0_4, .int .i64 a0_5, .int .i64 a0_6, .bool true, .int .i64 (wrap64 (rd l1 2)), .bool a0_9, .slice Ao1001 l0_10.length co1001, .slice A0_11 l0_11.length c0_11] 25 (0, 0))) := ⟨(by rw [hw]; exact (by (with_reducible repeat (first | refine blk_drewN ?_ _ | refine blk_drew ?_ | refine blk_alloc ?_ _)); refine blk_put (cs := #[.int .i64 a0_0, .int .i64 a0_1, .int .i64 a0_2, .int .i64 a0_3, .int .i64 a0_4, .int .i64 a0_5, .int .i64 a0_6, .bool true, .int .i64 a0_8, .bool a0_9, .slice Ao1001 l0_10.length co1001, .slice A0_11 l0_11.length c0_11]) ?_ 8 _ rfl; (with_reducible repeat (first | refine blk_drewN ?_ _ | refine blk_drew ?_ | refine blk_alloc ?_ _)); refine blk_put (cs := #[.int .i64 a0_0, .int .i64 a0_1, .int .i64 a0_2, .int .i64 a0_3, .int .i64 a0_4, .int .i64 a0_5, .int .i64 a0_6, .bool a0_7, .int .i64 a0_8, .bool a0_9, .slice Ao1001 l0_10.length co1001, .slice A0_11 l0_11.length c0_11]) ?_ 7 _ rfl; (with_reducible repeat (first | refine blk_drewN ?_ _ | refine blk_drew ?_ | refine blk_alloc ?_ _)); exact BK154.out))⟩; have n2_ : Aside0 (w1006.heap[gb155]? = some (.cells #[.int .i64 0, .int .i64 0, .int .i64 0, .int .i64 0, .int .i64 0, .int .i64 0, .int .i64 0, .bool false, .int .i64 0, .bool false, .slice none 0 0, .slice none 0 0] 25 (0, 0))) := ⟨(by rw [hw]; exact (by (with_reducible repeat (first | refine blk_drewN ?_ _ | refine blk_drew ?_ | refine blk_alloc ?_ _)); refine blk_far ?_ NB155_154.out _; (with_reducible repeat (first | refine blk_drewN ?_ _ | refine blk_drew ?_ | refine blk_alloc ?_ _)); refine blk_far ?_ NB155_154.out _; (with_reducible repeat (first | refine blk_drewN ?_ _ | refine blk_drew ?_ | refine blk_alloc ?_ _)); exact BK155.out))⟩; have n3_ : Aside0 (Kept w w1006 (fun k_ => P0_10_ k_)) := ⟨(by rw [hw]; exact (by repeat (first | (with_reducible first | exact HK.out | apply Kept.alloc | apply Kept.drewN | apply Kept.drew | refine Kept.setCell ?_ (.inr GW154.out) _ | refine Kept.setCell ?_ (.inr GW155.out) _) | exact HK.out)))⟩; have n4_ : Aside0 (Below w0.heap.size w0 w1006) := ⟨(by rw [hw]; exact wB)⟩; clear hw; clear HO0_10; clear BK154; clear BK155; clear HK; clear HB; have HO0_10 := n0_; have BK154 := n1_; have BK155 := n2_; have HK := n3_; have HB := n4_; clear n0_ n1_ n2_ n3_ n4_; obtain ⟨⟨hcz1007_0, hcz1007_1, hcz1007_2, hcz1007_3, hcz1007_4, hcz1007_5, hcz1007_6, hcz1007_7, hcz1007_8, hcz1007_9, hcz1007_10, hcz1007_11⟩, hfz1007_0, hfz1007_1, hfz1007_2, hfz1007_3, hfz1007_4, hfz1007_5, hfz1007_6, hfz1007_7, hfz1007_8, hfz1007_9, hfz1007_10, hfz1007_11⟩ := cells12 BK154.out; obtain ⟨⟨hcz1008_0, hcz1008_1, hcz1008_2, hcz1008_3, hcz1008_4, hcz1008_5, hcz1008_6, hcz1008_7, hcz1008_8, hcz1008_9, hcz1008_10, hcz1008_11⟩, hfz1008_0, hfz1008_1, hfz1008_2, hfz1008_3, hfz1008_4, hfz1008_5, hfz1008_6, hfz1008_7, hfz1008_8, hfz1008_9, hfz1008_10, hfz1008_11⟩ := cells12 BK155.out) | ((with_reducible refine gate_store (t := 25) (p := 4) rfl ?_); (try (rw [drewN_self w1006]; generalize hq_ : World.drewN w1006 _ = w1006; have n0_ := Aside0.mk (Kd.R_at hq_ HO0_10.out); have n1_ := Aside0.mk (blk_at hq_ BK154.out); have n2_ := Aside0.mk (blk_at hq_ BK155.out); have n3_ := Aside0.mk (kept_at hq_ HK.out); have n4_ := Aside0.mk (below_at hq_ HB.out); clear hq_ HO0_10 BK154 BK155 HK HB; have HO0_10 := n0_; have BK154 := n1_; have BK155 := n2_; have HK := n3_; have HB := n4_; clear n0_ n1_ n2_ n3_ n4_; (try (obtain ⟨⟨hcyBK154_0, hcyBK154_1, hcyBK154_2, hcyBK154_3, hcyBK154_4, hcyBK154_5, hcyBK154_6, hcyBK154_7, hcyBK154_8, hcyBK154_9, hcyBK154_10, hcyBK154_11⟩, hfyBK154_0, hfyBK154_1, hfyBK154_2, hfyBK154_3, hfyBK154_4, hfyBK154_5, hfyBK154_6, hfyBK154_7, hfyBK154_8, hfyBK154_9, hfyBK154_10, hfyBK154_11⟩ := cells12 BK154.out)); (try (obtain ⟨⟨hcyBK155_0, hcyBK155_1, hcyBK155_2, hcyBK155_3, hcyBK155_4, hcyBK155_5, hcyBK155_6, hcyBK155_7, hcyBK155_8, hcyBK155_9, hcyBK155_10, hcyBK155_11⟩, hfyBK155_0, hfyBK155_1, hfyBK155_2, hfyBK155_3, hfyBK155_4, hfyBK155_5, hfyBK155_6, hfyBK155_7, hfyBK155_8, hfyBK155_9, hfyBK155_10, hfyBK155_11⟩ := cells12 BK155.out)))); refine store_event (t := 25) (p := 4) (v := ?_) (w1 := (put12 (w1006.setCell ⟨gb154, 8, none⟩ (.int .i64 14)) gb155 (.int .i64 a0_0) (.int .i64 a0_1) (.int .i64 a0_2) (.int .i64 a0_3) (.int .i64 a0_4) (.int .i64 a0_5) (.int .i64 a0_6) (.bool true) (.int .i64 14) (.bool a0_9) (.slice Ao1001 l0_10.length co1001) (.slice A0_11 l0_11.length c0_11))) ?hg ?ho ?hn ?hr ?_; (case ho => rfl); (case hg => rfl); (case hn => rfl); (case hr => first | (go_simp; done) | (go_simp; rfl)); intro w1009 hw; have n0_ : Aside0 (Kd.R k60 60 w1009 w0.heap.size (fun k_ => (P0_10_ k_ ∨ w.heap.size ≤ k_)) (.slice Ao1001 l0_10.length co1001) l0_10) := ⟨(by rw [hw]; exact (by (with_reducible repeat (first | apply Kd.R_alloc | apply Kd.R_drewN | apply Kd.R_drew)); exact Kd.R_mono (Kd.R_step (Kd.R_far (p := ⟨gb154, 8, none⟩) (Kd.R_types (Kd.R_types HO0_10.out BK154.out (by decide)) BK155.out (by decide)) (fun _ hk => hk.1.2) (.int .i64 14)) (fun _ hk _ => far12 hk.2)) (fun _ hk => hk.1.1)))⟩; have n1_ : Aside0 (w1009.heap[gb154]? = some (.cells #[.int .i64 a0_0, .int .i64 a0_1, .int .i64 a0_2, .int .i64 a0_3, .int .i64 a0_4, .int .i64 a0_5, .int .i64 a0_6, .bool true, .int .i64 14, .bool a0_9, .slice Ao1001 l0_10.length co1001, .slice A0_11 l0_11.length c0_11] 25 (0, 0))) := ⟨(by rw [hw]; exact (by refine (far12 NB154_155.out).trans ?_; (with_reducible repeat (first | refine blk_drewN ?_ _ | refine blk_drew ?_ | refine blk_alloc ?_ _)); refine blk_put (cs := #[.int .i64 a0_0, .int .i64 a0_1, .int .i64 a0_2, .int .i64 a0_3, .int .i64 a0_4, .int .i64 a0_5, .int .i64 a0_6, .bool true, .int .i64 (wrap64 (rd l1 2)), .bool a0_9, .slice Ao1001 l0_10.length co1001, .slice A0_11 l0_11.length c0_11]) ?_ 8 _ rfl; (with_reducible repeat (first | refine blk_drewN ?_ _ | refine blk_drew ?_ | refine blk_alloc ?_ _)); exact BK154.out))⟩; have n2_ : Aside0 (w1009.heap[gb155]? = some (.cells #[.int .i64 a0_0, .int .i64 a0_1, .int .i64 a0_2, .int .i64 a0_3, .int .i64 a0_4, .int .i64 a0_5, .int .i64 a0_6, .bool true, .int .i64 14, .bool a0_9, .slice Ao1001 l0_10.length co1001, .slice A0_11 l0_11.length c0_11] 25 (0, 0))) := ⟨(by rw [hw]; exact (by apply set12; (with_reducible repeat (first | refine blk_drewN ?_ _ | refine blk_drew ?_ | refine blk_alloc ?_ _)); refine blk_far ?_ NB155_154.out _; (with_reducible repeat (first | refine blk_drewN ?_ _ | refine blk_drew ?_ | refine blk_alloc ?_ _)); exact BK155.out))⟩; have n3_ : Aside0 (Kept w w1009 (fun k_ => P0_10_ k_)) := ⟨(by rw [hw]; exact (by repeat (first | (with_reducible first | exact HK.out | apply Kept.alloc | apply Kept.drewN | apply Kept.drew | refine Kept.setCell ?_ (.inr GW154.out) _ | refine Kept.setCell ?_ (.inr GW155.out) _) | exact HK.out)))⟩; have n4_ : Aside0 (Below w0.heap.size w0 w1009) := ⟨(by rw [hw]; exact wB)⟩; clear hw; clear HO0_10; clear BK154; clear BK155; clear HK; clear HB; have HO0_10 := n0_; have BK154 := n1_; have BK155 := n2_; have HK := n3_; have HB := n4_; clear n0_ n1_ n2_ n3_ n4_))
 refine bodyPost_ret (results_ct rfl _ _ gb155 25 #[.int .i64 a0_0, .int .i64 a0_1, .int .i64 a0_2, .int .i64 a0_3, .int .i64 a0_4, .int .i64 a0_5, .int .i64 a0_6, .bool true, .int .i64 14, .bool a0_9, .slice Ao1001 l0_10.length co1001, .slice A0_11 l0_11.length c0_11] (0, 0) _ rfl (Bh BK155) Try.underlying25 rfl (by kernel_rfl)) rfl ?_
 exact ⟨_, by first | rfl | (simp [errW_none, errW_some] <;> rfl) | (simp [*, errW_none, errW_some] <;> rfl), by (with_reducible repeat (first | apply Kd.R_alloc | apply Kd.R_drewN | apply Kd.R_drew)); exact HO0_10.out, wB, by repeat (first | (with_reducible first | exact HK.out | apply Kept.alloc | apply Kept.drewN | apply Kept.drew | refine Kept.setCell ?_ (.inr GW154.out) _ | refine Kept.setCell ?_ (.inr GW155.out) _) | exact HK.out)⟩
 }
 {
 go_wp2_with (first | ((with_reducible refine gate_dst (N := 2) rfl ?_); (try (refine gate_guard (by rfl) ?_; dsimp only)); refine box_event ?hg (N := 2) ?hd (cs := #[.int .i64 a0_0, .int .i64 a0_1, .int .i64 a0_2, .int .i64 a0_3, .int .i64 a0_4, .int .i64 a0_5, .int .i64 a0_6, .bool a0_7, .int .i64 a0_8, .bool a0_9, .slice Ao1001 l0_10.length co1001, .slice A0_11 l0_11.length c0_11]) (t := 25) ?hr ?_; (case hd => rfl); (case hg => rfl); (case hr => first | (go_simp; done) | (go_simp; rfl)); intro gb154 hg w1002 hbox hb; have n0_ := Aside0.mk (Kd.R_below (Rh HO0_10) hb); have n1_ := Aside0.mk (Kept.below (S := (fun k_ => P0_10_ k_)) (by repeat (first | (with_reducible first | exact HK.out | apply Kept.alloc | apply Kept.drewN | apply Kept.drew) | exact HK.out)) hb); have n2_ := Aside0.mk (below_step wB hb); have n3_ := Aside0.mk (hbox); have n4_ := Aside0.mk ((by rw [hg]; exact (by first | exact HK.out.1 | exact (show Kept w _ (fun k_ => P0_10_ k_) from by repeat (first | (with_reducible first | exact HK.out | apply Kept.alloc | apply Kept.drewN | apply Kept.drew) | exact HK.out)).1) : w.heap.size ≤ gb154)); have n5_ := Aside0.mk ((by rw [hg]; exact (below_size wB) : w0.heap.size ≤ gb154)); clear HO0_10; clear HK; clear HB; have HO0_10 := n0_; have HK := n1_; have HB := n2_; have BK154 := n3_; have GW154 := n4_; have GE154 := n5_; clear n0_ n1_ n2_ n3_ n4_ n5_; clear hb hbox hg) | ((with_reducible refine gate_dst (N := 4) rfl ?_); (try (refine gate_guard (by rfl) ?_; dsimp only)); refine box_event ?hg (N := 4) ?hd (cs := #[.int .i64 0, .int .i64 0, .int .i64 0, .int .i64 0, .int .i64 0, .int .i64 0, .int .i64 0, .bool false, .int .i64 0, .bool false, .slice none 0 0, .slice none 0 0]) (t := 25) ?hr ?_; (case hd => rfl); (case hg => rfl); (case hr => first | (go_simp; done) | (go_simp; rfl)); intro gb155 hg w1003 hbox hb; have n0_ := Aside0.mk (Kd.R_below (Rh HO0_10) hb); have n1_ := Aside0.mk (blk_below (Bh BK154) hb); have n2_ := Aside0.mk (Kept.below (S := (fun k_ => P0_10_ k_)) (by repeat (first | (with_reducible first | exact HK.out | apply Kept.alloc | apply Kept.drewN | apply Kept.drew | refine Kept.setCell ?_ (.inr GW154.out) _) | exact HK.out)) hb); have n3_ := Aside0.mk (below_step wB hb); have n4_ := Aside0.mk (hbox); have n5_ := Aside0.mk ((by rw [hg]; exact (by first | exact HK.out.1 | exact (show Kept w _ (fun k_ => P0_10_ k_) from by repeat (first | (with_reducible first | exact HK.out | apply Kept.alloc | apply Kept.drewN | apply Kept.drew | refine Kept.setCell ?_ (.inr GW154.out) _) | exact HK.out)).1) : w.heap.size ≤ gb155)); have n6_ := Aside0.mk ((by rw [hg]; exact (below_size wB) : w0.heap.size ≤ gb155)); have n7_ := Aside0.mk ((by rw [hg]; exact Nat.ne_of_lt (blk_lt (Bh BK154)) : gb154 ≠ gb155)); have n8_ := Aside0.mk ((by rw [hg]; exact Nat.ne_of_gt (blk_lt (Bh BK154)) : gb155 ≠ gb154)); clear HO0_10; clear BK154; clear HK; clear HB; have HO0_10 := n0_; have BK154 := n1_; have HK := n2_; have HB := n3_; have BK155 := n4_; have GW155 := n5_; have GE155 := n6_; have NB154_155 := n7_; have NB155_154 := n8_; clear n0_ n1_ n2_ n3_ n4_ n5_ n6_ n7_ n8_; clear hb hbox hg; have p156 : 0 ≤ (0 : Int) := (by omega); have q156 : 0 < (l1.length : Int) := of_decide_eq_true (by first | (with_reducible assumption) | assumption); obtain ⟨ad156, e156, hx156_0⟩ := Kd.at_int (Kd.C_kept_now HR1.out HK.out) 0 p156 q156; cases e156; have qi156 : (0 < l1.length) = True := eq_true (by omega); (try rw [show ((0 : Int)).toNat = 0 from rfl] at hx156_0); (try rw [Addr.add_zero'] at hx156_0); replace p156 := eq_true p156; replace q156 := eq_true q156; have hnb1004 := NB154_155.out; have hnc1004 := NB155_154.out; obtain ⟨⟨hcz1005_0, hcz1005_1, hcz1005_2, hcz1005_3, hcz1005_4, hcz1005_5, hcz1005_6, hcz1005_7, hcz1005_8, hcz1005_9, hcz1005_10, hcz1005_11⟩, hfz1005_0, hfz1005_1, hfz1005_2, hfz1005_3, hfz1005_4, hfz1005_5, hfz1005_6, hfz1005_7, hfz1005_8, hfz1005_9, hfz1005_10, hfz1005_11⟩ := cells12 BK154.out; have p162 : 0 ≤ (2 : Int) := (by omega); have q162 : 2 < (l1.length : Int) := of_decide_eq_true (by first | (with_reducible assumption) | assumption); obtain ⟨ad162, e162, hx162_0⟩ := Kd.at_int (Kd.C_kept_now HR1.out (show Kept w (w1003.setCell ⟨gb154, 7, none⟩ (.bool true)) (fun k_ => P0_10_ k_) from by repeat (first | (with_reducible first | exact HK.out | apply Kept.alloc | apply Kept.drewN | apply Kept.drew | refine Kept.setCell ?_ (.inr GW154.out) _ | refine Kept.setCell ?_ (.inr GW155.out) _) | exact HK.out))) 2 p162 q162; obtain rfl : ad156 = ad162 := (by injection e162); (try simp only [show (2 : Int).toNat = 2 from rfl, Nat.reduceMul, Nat.reduceEqDiff, Go.Addr.add, ↓reduceIte] at hx162_0); have qi162 : (2 < l1.length) = True := eq_true (by omega); (try rw [show ((2 : Int)).toNat = 2 from rfl] at hx162_0); replace p162 := eq_true p162; replace q162 := eq_true q162) | ((with_reducible refine gate_store (t := 2) (p := 31) rfl ?_); (try (rw [drewN_self w1003]; generalize hq_ : World.drewN w1003 _ = w1003; have n0_ := Aside0.mk (Kd.R_at hq_ HO0_10.out); have n1_ := Aside0.mk (blk_at hq_ BK154.out); have n2_ := Aside0.mk (blk_at hq_ BK155.out); have n3_ := Aside0.mk (kept_at hq_ HK.out); have n4_ := Aside0.mk (below_at hq_ HB.out); clear hq_ HO0_10 BK154 BK155 HK HB; have HO0_10 := n0_; have BK154 := n1_; have BK155 := n2_; have HK := n3_; have HB := n4_; clear n0_ n1_ n2_ n3_ n4_; (try (obtain ⟨⟨hcyBK154_0, hcyBK154_1, hcyBK154_2, hcyBK154_3, hcyBK154_4, hcyBK154_5, hcyBK154_6, hcyBK154_7, hcyBK154_8, hcyBK154_9, hcyBK154_10, hcyBK154_11⟩, hfyBK154_0, hfyBK154_1, hfyBK154_2, hfyBK154_3, hfyBK154_4, hfyBK154_5, hfyBK154_6, hfyBK154_7, hfyBK154_8, hfyBK154_9, hfyBK154_10, hfyBK154_11⟩ := cells12 BK154.out)); (try (obtain ⟨⟨hcyBK155_0, hcyBK155_1, hcyBK155_2, hcyBK155_3, hcyBK155_4, hcyBK155_5, hcyBK155_6, hcyBK155_7, hcyBK155_8, hcyBK155_9, hcyBK155_10, hcyBK155_11⟩, hfyBK155_0, hfyBK155_1, hfyBK155_2, hfyBK155_3, hfyBK155_4, hfyBK155_5, hfyBK155_6, hfyBK155_7, hfyBK155_8, hfyBK155_9, hfyBK155_10, hfyBK155_11⟩ := cells12 BK155.out)))); refine store_event (t := 2) (p := 31) (v := ?_) (w1 := ((w1003.setCell ⟨gb154, 7, none⟩ (.bool true)).setCell ⟨gb154, 8, none⟩ (.int .i64 (wrap64 (rd l1 2))))) ?hg ?ho ?hn ?hr ?_; (case ho => rfl); (case hg => rfl); (case hn => rfl); (case hr => first | (go_simp; done) | (go_simp; rfl)); intro w1006 hw; have n0_ : Aside0 (Kd.R k60 60 w1006 w0.heap.size (fun k_ => (P0_10_ k_ ∨ w.heap.size ≤ k_)) (.slice Ao1001 l0_10.length co1001) l0_10) := ⟨(by rw [hw]; exact (by (with_reducible repeat (first | apply Kd.R_alloc | apply Kd.R_drewN | apply Kd.R_drew)); exact Kd.R_mono (Kd.R_far (p := ⟨gb154, 8, none⟩) (Kd.R_far (p := ⟨gb154, 7, none⟩) (Kd.R_types HO0_10.out BK154.out (by decide)) (fun _ hk => hk.2) (.bool true)) (fun _ hk => hk.2) (.int .i64 (wrap64 (rd l1 2)))) (fun _ hk => hk.1)))⟩; have n1_ : Aside0 (w1006.heap[gb154]? = some (.cells #[.int .i64 a0_0, .int .i64 a0_1, .int .i64 a0_2, .int .i64 a0_3, .int .i64 a0_4, .int .i64 a0_5, .int .i64 a0_6, .bool true, .int .i64 (wrap64 (rd l1 2)), .bool a0_9, .slice Ao1001 l0_10.length co1001, .slice A0_11 l0_11.length c0_11] 25 (0, 0))) := ⟨(by rw [hw]; exact (by (with_reducible repeat (first | refine blk_drewN ?_ _ | refine blk_drew ?_ | refine blk_alloc ?_ _)); refine blk_put (cs := #[.int .i64 a0_0, .int .i64 a0_1, .int .i64 a0_2, .int .i64 a0_3, .int .i64 a0_4, .int .i64 a0_5, .int .i64 a0_6, .bool true, .int .i64 a0_8, .bool a0_9, .slice Ao1001 l0_10.length co1001, .slice A0_11 l0_11.length c0_11]) ?_ 8 _ rfl; (with_reducible repeat (first | refine blk_drewN ?_ _ | refine blk_drew ?_ | refine blk_alloc ?_ _)); refine blk_put (cs := #[.int .i64 a0_0, .int .i64 a0_1, .int .i64 a0_2, .int .i64 a0_3, .int .i64 a0_4, .int .i64 a0_5, .int .i64 a0_6, .bool a0_7, .int .i64 a0_8, .bool a0_9, .slice Ao1001 l0_10.length co1001, .slice A0_11 l0_11.length c0_11]) ?_ 7 _ rfl; (with_reducible repeat (first | refine blk_drewN ?_ _ | refine blk_drew ?_ | refine blk_alloc ?_ _)); exact BK154.out))⟩; have n2_ : Aside0 (w1006.heap[gb155]? = some (.cells #[.int .i64 0, .int .i64 0, .int .i64 0, .int .i64 0, .int .i64 0, .int .i64 0, .int .i64 0, .bool false, .int .i64 0, .bool false, .slice none 0 0, .slice none 0 0] 25 (0, 0))) := ⟨(by rw [hw]; exact (by (with_reducible repeat (first | refine blk_drewN ?_ _ | refine blk_drew ?_ | refine blk_alloc ?_ _)); refine blk_far ?_ NB155_154.out _; (with_reducible repeat (first | refine blk_drewN ?_ _ | refine blk_drew ?_ | refine blk_alloc ?_ _)); refine blk_far ?_ NB155_154.out _; (with_reducible repeat (first | refine blk_drewN ?_ _ | refine blk_drew ?_ | refine blk_alloc ?_ _)); exact BK155.out))⟩; have n3_ : Aside0 (Kept w w1006 (fun k_ => P0_10_ k_)) := ⟨(by rw [hw]; exact (by repeat (first | (with_reducible first | exact HK.out | apply Kept.alloc | apply Kept.drewN | apply Kept.drew | refine Kept.setCell ?_ (.inr GW154.out) _ | refine Kept.setCell ?_ (.inr GW155.out) _) | exact HK.out)))⟩; have n4_ : Aside0 (Below w0.heap.size w0 w1006) := ⟨(by rw [hw]; exact wB)⟩; clear hw; clear HO0_10; clear BK154; clear BK155; clear HK; clear HB; have HO0_10 := n0_; have BK154 := n1_; have BK155 := n2_; have HK := n3_; have HB := n4_; clear n0_ n1_ n2_ n3_ n4_; obtain ⟨⟨hcz1007_0, hcz1007_1, hcz1007_2, hcz1007_3, hcz1007_4, hcz1007_5, hcz1007_6, hcz1007_7, hcz1007_8, hcz1007_9, hcz1007_10, hcz1007_11⟩, hfz1007_0, hfz1007_1, hfz1007_2, hfz1007_3, hfz1007_4, hfz1007_5, hfz1007_6, hfz1007_7, hfz1007_8, hfz1007_9, hfz1007_10, hfz1007_11⟩ := cells12 BK154.out; obtain ⟨⟨hcz1008_0, hcz1008_1, hcz1008_2, hcz1008_3, hcz1008_4, hcz1008_5, hcz1008_6, hcz1008_7, hcz1008_8, hcz1008_9, hcz1008_10, hcz1008_11⟩, hfz1008_0, hfz1008_1, hfz1008_2, hfz1008_3, hfz1008_4, hfz1008_5, hfz1008_6, hfz1008_7, hfz1008_8, hfz1008_9, hfz1008_10, hfz1008_11⟩ := cells12 BK155.out) | ((with_reducible refine gate_store (t := 25) (p := 4) rfl ?_); (try (rw [drewN_self w1006]; generalize hq_ : World.drewN w1006 _ = w1006; have n0_ := Aside0.mk (Kd.R_at hq_ HO0_10.out); have n1_ := Aside0.mk (blk_at hq_ BK154.out); have n2_ := Aside0.mk (blk_at hq_ BK155.out); have n3_ := Aside0.mk (kept_at hq_ HK.out); have n4_ := Aside0.mk (below_at hq_ HB.out); clear hq_ HO0_10 BK154 BK155 HK HB; have HO0_10 := n0_; have BK154 := n1_; have BK155 := n2_; have HK := n3_; have HB := n4_; clear n0_ n1_ n2_ n3_ n4_; (try (obtain ⟨⟨hcyBK154_0, hcyBK154_1, hcyBK154_2, hcyBK154_3, hcyBK154_4, hcyBK154_5, hcyBK154_6, hcyBK154_7, hcyBK154_8, hcyBK154_9, hcyBK154_10, hcyBK154_11⟩, hfyBK154_0, hfyBK154_1, hfyBK154_2, hfyBK154_3, hfyBK154_4, hfyBK154_5, hfyBK154_6, hfyBK154_7, hfyBK154_8, hfyBK154_9, hfyBK154_10, hfyBK154_11⟩ := cells12 BK154.out)); (try (obtain ⟨⟨hcyBK155_0, hcyBK155_1, hcyBK155_2, hcyBK155_3, hcyBK155_4, hcyBK155_5, hcyBK155_6, hcyBK155_7, hcyBK155_8, hcyBK155_9, hcyBK155_10, hcyBK155_11⟩, hfyBK155_0, hfyBK155_1, hfyBK155_2, hfyBK155_3, hfyBK155_4, hfyBK155_5, hfyBK155_6, hfyBK155_7, hfyBK155_8, hfyBK155_9, hfyBK155_10, hfyBK155_11⟩ := cells12 BK155.out)))); refine store_event (t := 25) (p := 4) (v := ?_) (w1 := (put12 w1006 gb155 (.int .i64 a0_0) (.int .i64 a0_1) (.int .i64 a0_2) (.int .i64 a0_3) (.int .i64 a0_4) (.int .i64 a0_5) (.int .i64 a0_6) (.bool true) (.int .i64 (wrap64 (rd l1 2))) (.bool a0_9) (.slice Ao1001 l0_10.length co1001) (.slice A0_11 l0_11.length c0_11))) ?hg ?ho ?hn ?hr ?_; (case ho => rfl); (case hg => rfl); (case hn => rfl); (case hr => first | (go_simp; done) | (go_simp; rfl)); intro w1009 hw; have n0_ : Aside0 (Kd.R k60 60 w1009 w0.heap.size (fun k_ => (P0_10_ k_ ∨ w.heap.size ≤ k_)) (.slice Ao1001 l0_10.length co1001) l0_10) := ⟨(by rw [hw]; exact (by (with_reducible repeat (first | apply Kd.R_alloc | apply Kd.R_drewN | apply Kd.R_drew)); exact Kd.R_mono (Kd.R_step (Kd.R_types HO0_10.out BK155.out (by decide)) (fun _ hk _ => far12 hk.2)) (fun _ hk => hk.1)))⟩; have n1_ : Aside0 (w1009.heap[gb154]? = some (.cells #[.int .i64 a0_0, .int .i64 a0_1, .int .i64 a0_2, .int .i64 a0_3, .int .i64 a0_4, .int .i64 a0_5, .int .i64 a0_6, .bool true, .int .i64 (wrap64 (rd l1 2)), .bool a0_9, .slice Ao1001 l0_10.length co1001, .slice A0_11 l0_11.length c0_11] 25 (0, 0))) := ⟨(by rw [hw]; exact (by refine (far12 NB154_155.out).trans ?_; (with_reducible repeat (first | refine blk_drewN ?_ _ | refine blk_drew ?_ | refine blk_alloc ?_ _)); exact BK154.out))⟩; have n2_ : Aside0 (w1009.heap[gb155]? = some (.cells #[.int .i64 a0_0, .int .i64 a0_1, .int .i64 a0_2, .int .i64 a0_3, .int .i64 a0_4, .int .i64 a0_5, .int .i64 a0_6, .bool true, .int .i64 (wrap64 (rd l1 2)), .bool a0_9, .slice Ao1001 l0_10.length co1001, .slice A0_11 l0_11.length c0_11] 25 (0, 0))) := ⟨(by rw [hw]; exact (by apply set12; (with_reducible repeat (first | refine blk_drewN ?_ _ | refine blk_drew ?_ | refine blk_alloc ?_ _)); exact BK155.out))⟩; have n3_ : Aside0 (Kept w w1009 (fun k_ => P0_10_ k_)) := ⟨(by rw [hw]; exact (by repeat (first | (with_reducible first | exact HK.out | apply Kept.alloc | apply Kept.drewN | apply Kept.drew | refine Kept.setCell ?_ (.inr GW154.out) _ | refine Kept.setCell ?_ (.inr GW155.out) _) | exact HK.out)))⟩; have n4_ : Aside0 (Below w0.heap.size w0 w1009) := ⟨(by rw [hw]; exact wB)⟩; clear hw; clear HO0_10; clear BK154; clear BK155; clear HK; clear HB; have HO0_10 := n0_; have BK154 := n1_; have BK155 := n2_; have HK := n3_; have HB := n4_; clear n0_ n1_ n2_ n3_ n4_))
 refine bodyPost_ret (results_ct rfl _ _ gb155 25 #[.int .i64 a0_0, .int .i64 a0_1, .int .i64 a0_2, .int .i64 a0_3, .int .i64 a0_4, .int .i64 a0_5, .int .i64 a0_6, .bool true, .int .i64 (wrap64 (rd l1 2)), .bool a0_9, .slice Ao1001 l0_10.length co1001, .slice A0_11 l0_11.length c0_11] (0, 0) _ rfl (Bh BK155) Try.underlying25 rfl (by kernel_rfl)) rfl ?_
 exact ⟨_, by first | rfl | (simp [errW_none, errW_some] <;> rfl) | (simp [*, errW_none, errW_some] <;> rfl), by (with_reducible repeat (first | apply Kd.R_alloc | apply Kd.R_drewN | apply Kd.R_drew)); exact HO0_10.out, wB, by repeat (first | (with_reducible first | exact HK.out | apply Kept.alloc | apply Kept.drewN | apply Kept.drew | refine Kept.setCell ?_ (.inr GW154.out) _ | refine Kept.setCell ?_ (.inr GW155.out) _) | exact HK.out)⟩
 }
 {
 go_wp2_with (first | ((with_reducible refine gate_dst (N := 2) rfl ?_); (try (refine gate_guard (by rfl) ?_; dsimp only)); refine box_event ?hg (N := 2) ?hd (cs := #[.int .i64 a0_0, .int .i64 a0_1, .int .i64 a0_2, .int .i64 a0_3, .int .i64 a0_4, .int .i64 a0_5, .int .i64 a0_6, .bool a0_7, .int .i64 a0_8, .bool a0_9, .slice Ao1001 l0_10.length co1001, .slice A0_11 l0_11.length c0_11]) (t := 25) ?hr ?_; (case hd => rfl); (case hg => rfl); (case hr => first | (go_simp; done) | (go_simp; rfl)); intro gb154 hg w1002 hbox hb; have n0_ := Aside0.mk (Kd.R_below (Rh HO0_10) hb); have n1_ := Aside0.mk (Kept.below (S := (fun k_ => P0_10_ k_)) (by repeat (first | (with_reducible first | exact HK.out | apply Kept.alloc | apply Kept.drewN | apply Kept.drew) | exact HK.out)) hb); have n2_ := Aside0.mk (below_step wB hb); have n3_ := Aside0.mk (hbox); have n4_ := Aside0.mk ((by rw [hg]; exact (by first | exact HK.out.1 | exact (show Kept w _ (fun k_ => P0_10_ k_) from by repeat (first | (with_reducible first | exact HK.out | apply Kept.alloc | apply Kept.drewN | apply Kept.drew) | exact HK.out)).1) : w.heap.size ≤ gb154)); have n5_ := Aside0.mk ((by rw [hg]; exact (below_size wB) : w0.heap.size ≤ gb154)); clear HO0_10; clear HK; clear HB; have HO0_10 := n0_; have HK := n1_; have HB := n2_; have BK154 := n3_; have GW154 := n4_; have GE154 := n5_; clear n0_ n1_ n2_ n3_ n4_ n5_; clear hb hbox hg) | ((with_reducible refine gate_dst (N := 4) rfl ?_); (try (refine gate_guard (by rfl) ?_; dsimp only)); refine box_event ?hg (N := 4) ?hd (cs := #[.int .i64 0, .int .i64 0, .int .i64 0, .int .i64 0, .int .i64 0, .int .i64 0, .int .i64 0, .bool false, .int .i64 0, .bool false, .slice none 0 0, .slice none 0 0]) (t := 25) ?hr ?_; (case hd => rfl); (case hg => rfl); (case hr => first | (go_simp; done) | (go_simp; rfl)); intro gb155 hg w1003 hbox hb; have n0_ := Aside0.mk (Kd.R_below (Rh HO0_10) hb); have n1_ := Aside0.mk (blk_below (Bh BK154) hb); have n2_ := Aside0.mk (Kept.below (S := (fun k_ => P0_10_ k_)) (by repeat (first | (with_reducible first | exact HK.out | apply Kept.alloc | apply Kept.drewN | apply Kept.drew | refine Kept.setCell ?_ (.inr GW154.out) _) | exact HK.out)) hb); have n3_ := Aside0.mk (below_step wB hb); have n4_ := Aside0.mk (hbox); have n5_ := Aside0.mk ((by rw [hg]; exact (by first | exact HK.out.1 | exact (show Kept w _ (fun k_ => P0_10_ k_) from by repeat (first | (with_reducible first | exact HK.out | apply Kept.alloc | apply Kept.drewN | apply Kept.drew | refine Kept.setCell ?_ (.inr GW154.out) _) | exact HK.out)).1) : w.heap.size ≤ gb155)); have n6_ := Aside0.mk ((by rw [hg]; exact (below_size wB) : w0.heap.size ≤ gb155)); have n7_ := Aside0.mk ((by rw [hg]; exact Nat.ne_of_lt (blk_lt (Bh BK154)) : gb154 ≠ gb155)); have n8_ := Aside0.mk ((by rw [hg]; exact Nat.ne_of_gt (blk_lt (Bh BK154)) : gb155 ≠ gb154)); clear HO0_10; clear BK154; clear HK; clear HB; have HO0_10 := n0_; have BK154 := n1_; have HK := n2_; have HB := n3_; have BK155 := n4_; have GW155 := n5_; have GE155 := n6_; have NB154_155 := n7_; have NB155_154 := n8_; clear n0_ n1_ n2_ n3_ n4_ n5_ n6_ n7_ n8_; clear hb hbox hg; have p156 : 0 ≤ (0 : Int) := (by omega); have q156 : 0 < (l1.length : Int) := of_decide_eq_true (by first | (with_reducible assumption) | assumption); obtain ⟨ad156, e156, hx156_0⟩ := Kd.at_int (Kd.C_kept_now HR1.out HK.out) 0 p156 q156; cases e156; have qi156 : (0 < l1.length) = True := eq_true (by omega); (try rw [show ((0 : Int)).toNat = 0 from rfl] at hx156_0); (try rw [Addr.add_zero'] at hx156_0); replace p156 := eq_true p156; replace q156 := eq_true q156; have hnb1004 := NB154_155.out; have hnc1004 := NB155_154.out; obtain ⟨⟨hcz1005_0, hcz1005_1, hcz1005_2, hcz1005_3, hcz1005_4, hcz1005_5, hcz1005_6, hcz1005_7, hcz1005_8, hcz1005_9, hcz1005_10, hcz1005_11⟩, hfz1005_0, hfz1005_1, hfz1005_2, hfz1005_3, hfz1005_4, hfz1005_5, hfz1005_6, hfz1005_7, hfz1005_8, hfz1005_9, hfz1005_10, hfz1005_11⟩ := cells12 BK154.out; obtain ⟨⟨hcz1006_0, hcz1006_1, hcz1006_2, hcz1006_3, hcz1006_4, hcz1006_5, hcz1006_6, hcz1006_7, hcz1006_8, hcz1006_9, hcz1006_10, hcz1006_11⟩, hfz1006_0, hfz1006_1, hfz1006_2, hfz1006_3, hfz1006_4, hfz1006_5, hfz1006_6, hfz1006_7, hfz1006_8, hfz1006_9, hfz1006_10, hfz1006_11⟩ := cells12 BK155.out) | ((with_reducible refine gate_store (t := 25) (p := 4) rfl ?_); (try (rw [drewN_self w1003]; generalize hq_ : World.drewN w1003 _ = w1003; have n0_ := Aside0.mk (Kd.R_at hq_ HO0_10.out); have n1_ := Aside0.mk (blk_at hq_ BK154.out); have n2_ := Aside0.mk (blk_at hq_ BK155.out); have n3_ := Aside0.mk (kept_at hq_ HK.out); have n4_ := Aside0.mk (below_at hq_ HB.out); clear hq_ HO0_10 BK154 BK155 HK HB; have HO0_10 := n0_; have BK154 := n1_; have BK155 := n2_; have HK := n3_; have HB := n4_; clear n0_ n1_ n2_ n3_ n4_; (try (obtain ⟨⟨hcyBK154_0, hcyBK154_1, hcyBK154_2, hcyBK154_3, hcyBK154_4, hcyBK154_5, hcyBK154_6, hcyBK154_7, hcyBK154_8, hcyBK154_9, hcyBK154_10, hcyBK154_11⟩, hfyBK154_0, hfyBK154_1, hfyBK154_2, hfyBK154_3, hfyBK154_4, hfyBK154_5, hfyBK154_6, hfyBK154_7, hfyBK154_8, hfyBK154_9, hfyBK154_10, hfyBK154_11⟩ := cells12 BK154.out)); (try (obtain ⟨⟨hcyBK155_0, hcyBK155_1, hcyBK155_2, hcyBK155_3, hcyBK155_4, hcyBK155_5, hcyBK155_6, hcyBK155_7, hcyBK155_8, hcyBK155_9, hcyBK155_10, hcyBK155_11⟩, hfyBK155_0, hfyBK155_1, hfyBK155_2, hfyBK155_3, hfyBK155_4, hfyBK155_5, hfyBK155_6, hfyBK155_7, hfyBK155_8, hfyBK155_9, hfyBK155_10, hfyBK155_11⟩ := cells12 BK155.out)))); refine store_event (t := 25) (p := 4) (v := ?_) (w1 := (put12 w1003 gb155 (.int .i64 a0_0) (.int .i64 a0_1) (.int .i64 a0_2) (.int .i64 a0_3) (.int .i64 a0_4) (.int .i64 a0_5) (.int .i64 a0_6) (.bool a0_7) (.int .i64 a0_8) (.bool a0_9) (.slice Ao1001 l0_10.length co1001) (.slice A0_11 l0_11.length c0_11))) ?hg ?ho ?hn ?hr ?_; (case ho => rfl); (case hg => rfl); (case hn => rfl); (case hr => first | (go_simp; done) | (go_simp; rfl)); intro w1007 hw; have n0_ : Aside0 (Kd.R k60 60 w1007 w0.heap.size (fun k_ => (P0_10_ k_ ∨ w.heap.size ≤ k_)) (.slice Ao1001 l0_10.length co1001) l0_10) := ⟨(by rw [hw]; exact (by (with_reducible repeat (first | apply Kd.R_alloc | apply Kd.R_drewN | apply Kd.R_drew)); exact Kd.R_mono (Kd.R_step (Kd.R_types HO0_10.out BK155.out (by decide)) (fun _ hk _ => far12 hk.2)) (fun _ hk => hk.1)))⟩; have n1_ : Aside0 (w1007.heap[gb154]? = some (.cells #[.int .i64 a0_0, .int .i64 a0_1, .int .i64 a0_2, .int .i64 a0_3, .int .i64 a0_4, .int .i64 a0_5, .int .i64 a0_6, .bool a0_7, .int .i64 a0_8, .bool a0_9, .slice Ao1001 l0_10.length co1001, .slice A0_11 l0_11.length c0_11] 25 (0, 0))) := ⟨(by rw [hw]; exact (by refine (far12 NB154_155.out).trans ?_; (with_reducible repeat (first | refine blk_drewN ?_ _ | refine blk_drew ?_ | refine blk_alloc ?_ _)); exact BK154.out))⟩; have n2_ : Aside0 (w1007.heap[gb155]? = some (.cells #[.int .i64 a0_0, .int .i64 a0_1, .int .i64 a0_2, .int .i64 a0_3, .int .i64 a0_4, .int .i64 a0_5, .int .i64 a0_6, .bool a0_7, .int .i64 a0_8, .bool a0_9, .slice Ao1001 l0_10.length co1001, .slice A0_11 l0_11.length c0_11] 25 (0, 0))) := ⟨(by rw [hw]; exact (by apply set12; (with_reducible repeat (first | refine blk_drewN ?_ _ | refine blk_drew ?_ | refine blk_alloc ?_ _)); exact BK155.out))⟩; have n3_ : Aside0 (Kept w w1007 (fun k_ => P0_10_ k_)) := ⟨(by rw [hw]; exact (by repeat (first | (with_reducible first | exact HK.out | apply Kept.alloc | apply Kept.drewN | apply Kept.drew | refine Kept.setCell ?_ (.inr GW154.out) _ | refine Kept.setCell ?_ (.inr GW155.out) _) | exact HK.out)))⟩; have n4_ : Aside0 (Below w0.heap.size w0 w1007) := ⟨(by rw [hw]; exact wB)⟩; clear hw; clear HO0_10; clear BK154; clear BK155; clear HK; clear HB; have HO0_10 := n0_; have BK154 := n1_; have BK155 := n2_; have HK := n3_; have HB := n4_; clear n0_ n1_ n2_ n3_ n4_))
 refine bodyPost_ret (results_ct rfl _ _ gb155 25 #[.int .i64 a0_0, .int .i64 a0_1, .int .i64 a0_2, .int .i64 a0_3, .int .i64 a0_4, .int .i64 a0_5, .int .i64 a0_6, .bool a0_7, .int .i64 a0_8, .bool a0_9, .slice Ao1001 l0_10.length co1001, .slice A0_11 l0_11.length c0_11] (0, 0) _ rfl (Bh BK155) Try.underlying25 rfl (by kernel_rfl)) rfl ?_
 exact ⟨_, by first | rfl | (simp [errW_none, errW_some] <;> rfl) | (simp [*, errW_none, errW_some] <;> rfl), by (with_reducible repeat (first | apply Kd.R_alloc | apply Kd.R_drewN | apply Kd.R_drew)); exact HO0_10.out, wB, by repeat (first | (with_reducible first | exact HK.out | apply Kept.alloc | apply Kept.drewN | apply Kept.drew | refine Kept.setCell ?_ (.inr GW154.out) _ | refine Kept.setCell ?_ (.inr GW155.out) _) | exact HK.out)⟩
 }
 {
 go_wp2_with (first | ((with_reducible refine gate_dst (N := 2) rfl ?_); (try (refine gate_guard (by rfl) ?_; dsimp only)); refine box_event ?hg (N := 2) ?hd (cs := #[.int .i64 a0_0, .int .i64 a0_1, .int .i64 a0_2, .int .i64 a0_3, .int .i64 a0_4, .int .i64 a0_5, .int .i64 a0_6, .bool a0_7, .int .i64 a0_8, .bool a0_9, .slice Ao1001 l0_10.length co1001, .slice A0_11 l0_11.length c0_11]) (t := 25) ?hr ?_; (case hd => rfl); (case hg => rfl); (case hr => first | (go_simp; done) | (go_simp; rfl)); intro gb154 hg w1002 hbox hb; have n0_ := Aside0.mk (Kd.R_below (Rh HO0_10) hb); have n1_ := Aside0.mk (Kept.below (S := (fun k_ => P0_10_ k_)) (by repeat (first | (with_reducible first | exact HK.out | apply Kept.alloc | apply Kept.drewN | apply Kept.drew) | exact HK.out)) hb); have n2_ := Aside0.mk (below_step wB hb); have n3_ := Aside0.mk (hbox); have n4_ := Aside0.mk ((by rw [hg]; exact (by first | exact HK.out.1 | exact (show Kept w _ (fun k_ => P0_10_ k_) from by repeat (first | (with_reducible first | exact HK.out | apply Kept.alloc | apply Kept.drewN | apply Kept.drew) | exact HK.out)).1) : w.heap.size ≤ gb154)); have n5_ := Aside0.mk ((by rw [hg]; exact (below_size wB) : w0.heap.size ≤ gb154)); clear HO0_10; clear HK; clear HB; have HO0_10 := n0_; have HK := n1_; have HB := n2_; have BK154 := n3_; have GW154 := n4_; have GE154 := n5_; clear n0_ n1_ n2_ n3_ n4_ n5_; clear hb hbox hg) | ((with_reducible refine gate_dst (N := 4) rfl ?_); (try (refine gate_guard (by rfl) ?_; dsimp only)); refine box_event ?hg (N := 4) ?hd (cs := #[.int .i64 0, .int .i64 0, .int .i64 0, .int .i64 0, .int .i64 0, .int .i64 0, .int .i64 0, .bool false, .int .i64 0, .bool false, .slice none 0 0, .slice none 0 0]) (t := 25) ?hr ?_; (case hd => rfl); (case hg => rfl); (case hr => first | (go_simp; done) | (go_simp; rfl)); intro gb155 hg w1003 hbox hb; have n0_ := Aside0.mk (Kd.R_below (Rh HO0_10) hb); have n1_ := Aside0.mk (blk_below (Bh BK154) hb); have n2_ := Aside0.mk (Kept.below (S := (fun k_ => P0_10_ k_)) (by repeat (first | (with_reducible first | exact HK.out | apply Kept.alloc | apply Kept.drewN | apply Kept.drew | refine Kept.setCell ?_ (.inr GW154.out) _) | exact HK.out)) hb); have n3_ := Aside0.mk (below_step wB hb); have n4_ := Aside0.mk (hbox); have n5_ := Aside0.mk ((by rw [hg]; exact (by first | exact HK.out.1 | exact (show Kept w _ (fun k_ => P0_10_ k_) from by repeat (first | (with_reducible first | exact HK.out | apply Kept.alloc | apply Kept.drewN | apply Kept.drew | refine Kept.setCell ?_ (.inr GW154.out) _) | exact HK.out)).1) : w.heap.size ≤ gb155)); have n6_ := Aside0.mk ((by rw [hg]; exact (below_size wB) : w0.heap.size ≤ gb155)); have n7_ := Aside0.mk ((by rw [hg]; exact Nat.ne_of_lt (blk_lt (Bh BK154)) : gb154 ≠ gb155)); have n8_ := Aside0.mk ((by rw [hg]; exact Nat.ne_of_gt (blk_lt (Bh BK154)) : gb155 ≠ gb154)); clear HO0_10; clear BK154; clear HK; clear HB; have HO0_10 := n0_; have BK154 := n1_; have HK := n2_; have HB := n3_; have BK155 := n4_; have GW155 := n5_; have GE155 := n6_; have NB154_155 := n7_; have NB155_154 := n8_; clear n0_ n1_ n2_ n3_ n4_ n5_ n6_ n7_ n8_; clear hb hbox hg; have p156 : 0 ≤ (0 : Int) := (by omega); have q156 : 0 < (l1.length : Int) := of_decide_eq_true (by first | (with_reducible assumption) | assumption); obtain ⟨ad156, e156, hx156_0⟩ := Kd.at_int (Kd.C_kept_now HR1.out HK.out) 0 p156 q156; cases e156; have qi156 : (0 < l1.length) = True := eq_true (by omega); (try rw [show ((0 : Int)).toNat = 0 from rfl] at hx156_0); (try rw [Addr.add_zero'] at hx156_0); replace p156 := eq_true p156; replace q156 := eq_true q156; have hnb1004 := NB154_155.out; have hnc1004 := NB155_154.out; obtain ⟨⟨hcz1005_0, hcz1005_1, hcz1005_2, hcz1005_3, hcz1005_4, hcz1005_5, hcz1005_6, hcz1005_7, hcz1005_8, hcz1005_9, hcz1005_10, hcz1005_11⟩, hfz1005_0, hfz1005_1, hfz1005_2, hfz1005_3, hfz1005_4, hfz1005_5, hfz1005_6, hfz1005_7, hfz1005_8, hfz1005_9, hfz1005_10, hfz1005_11⟩ := cells12 BK154.out; obtain ⟨⟨hcz1006_0, hcz1006_1, hcz1006_2, hcz1006_3, hcz1006_4, hcz1006_5, hcz1006_6, hcz1006_7, hcz1006_8, hcz1006_9, hcz1006_10, hcz1006_11⟩, hfz1006_0, hfz1006_1, hfz1006_2, hfz1006_3, hfz1006_4, hfz1006_5, hfz1006_6, hfz1006_7, hfz1006_8, hfz1006_9, hfz1006_10, hfz1006_11⟩ := cells12 BK155.out) | ((with_reducible refine gate_store (t := 25) (p := 4) rfl ?_); (try (rw [drewN_self w1003]; generalize hq_ : World.drewN w1003 _ = w1003; have n0_ := Aside0.mk (Kd.R_at hq_ HO0_10.out); have n1_ := Aside0.mk (blk_at hq_ BK154.out); have n2_ := Aside0.mk (blk_at hq_ BK155.out); have n3_ := Aside0.mk (kept_at hq_ HK.out); have n4_ := Aside0.mk (below_at hq_ HB.out); clear hq_ HO0_10 BK154 BK155 HK HB; have HO0_10 := n0_; have BK154 := n1_; have BK155 := n2_; have HK := n3_; have HB := n4_; clear n0_ n1_ n2_ n3_ n4_; (try (obtain ⟨⟨hcyBK154_0, hcyBK154_1, hcyBK154_2, hcyBK154_3, hcyBK154_4, hcyBK154_5, hcyBK154_6, hcyBK154_7, hcyBK154_8, hcyBK154_9, hcyBK154_10, hcyBK154_11⟩, hfyBK154_0, hfyBK154_1, hfyBK154_2, hfyBK154_3, hfyBK154_4, hfyBK154_5, hfyBK154_6, hfyBK154_7, hfyBK154_8, hfyBK154_9, hfyBK154_10, hfyBK154_11⟩ := cells12 BK154.out)); (try (obtain ⟨⟨hcyBK155_0, hcyBK155_1, hcyBK155_2, hcyBK155_3, hcyBK155_4, hcyBK155_5, hcyBK155_6, hcyBK155_7, hcyBK155_8, hcyBK155_9, hcyBK155_10, hcyBK155_11⟩, hfyBK155_0, hfyBK155_1, hfyBK155_2, hfyBK155_3, hfyBK155_4, hfyBK155_5, hfyBK155_6, hfyBK155_7, hfyBK155_8, hfyBK155_9, hfyBK155_10, hfyBK155_11⟩ := cells12 BK155.out)))); refine store_event (t := 25) (p := 4) (v := ?_) (w1 := (put12 (w1003.setCell ⟨gb154, 9, none⟩ (.bool true)) gb155 (.int .i64 a0_0) (.int .i64 a0_1) (.int .i64 a0_2) (.int .i64 a0_3) (.int .i64 a0_4) (.int .i64 a0_5) (.int .i64 a0_6) (.bool a0_7) (.int .i64 a0_8) (.bool true) (.slice Ao1001 l0_10.length co1001) (.slice A0_11 l0_11.length c0_11))) ?hg ?ho ?hn ?hr ?_; (case ho => rfl); (case hg => rfl); (case hn => rfl); (case hr => first | (go_simp; done) | (go_simp; rfl)); intro w1007 hw; have n0_ : Aside0 (Kd.R k60 60 w1007 w0.heap.size (fun k_ => (P0_10_ k_ ∨ w.heap.size ≤ k_)) (.slice Ao1001 l0_10.length co1001) l0_10) := ⟨(by rw [hw]; exact (by (with_reducible repeat (first | apply Kd.R_alloc | apply Kd.R_drewN | apply Kd.R_drew)); exact Kd.R_mono (Kd.R_step (Kd.R_far (p := ⟨gb154, 9, none⟩) (Kd.R_types (Kd.R_types HO0_10.out BK154.out (by decide)) BK155.out (by decide)) (fun _ hk => hk.1.2) (.bool true)) (fun _ hk _ => far12 hk.2)) (fun _ hk => hk.1.1)))⟩; have n1_ : Aside0 (w1007.heap[gb154]? = some (.cells #[.int .i64 a0_0, .int .i64 a0_1, .int .i64 a0_2, .int .i64 a0_3, .int .i64 a0_4, .int .i64 a0_5, .int .i64 a0_6, .bool a0_7, .int .i64 a0_8, .bool true, .slice Ao1001 l0_10.length co1001, .slice A0_11 l0_11.length c0_11] 25 (0, 0))) := ⟨(by rw [hw]; exact (by refine (far12 NB154_155.out).trans ?_; (with_reducible repeat (first | refine blk_drewN ?_ _ | refine blk_drew ?_ | refine blk_alloc ?_ _)); refine blk_put (cs := #[.int .i64 a0_0, .int .i64 a0_1, .int .i64 a0_2, .int .i64 a0_3, .int .i64 a0_4, .int .i64 a0_5, .int .i64 a0_6, .bool a0_7, .int .i64 a0_8, .bool a0_9, .slice Ao1001 l0_10.length co1001, .slice A0_11 l0_11.length c0_11]) ?_ 9 _ rfl; (with_reducible repeat (first | refine blk_drewN ?_ _ | refine blk_drew ?_ | refine blk_alloc ?_ _)); exact BK154.out))⟩; have n2_ : Aside0 (w1007.heap[gb155]? = some (.cells #[.int .i64 a0_0, .int .i64 a0_1, .int .i64 a0_2, .int .i64 a0_3, .int .i64 a0_4, .int .i64 a0_5, .int .i64 a0_6, .bool a0_7, .int .i64 a0_8, .bool true, .slice Ao1001 l0_10.length co1001, .slice A0_11 l0_11.length c0_11] 25 (0, 0))) := ⟨(by rw [hw]; exact (by apply set12; (with_reducible repeat (first | refine blk_drewN ?_ _ | refine blk_drew ?_ | refine blk_alloc ?_ _)); refine blk_far ?_ NB155_154.out _; (with_reducible repeat (first | refine blk_drewN ?_ _ | refine blk_drew ?_ | refine blk_alloc ?_ _)); exact BK155.out))⟩; have n3_ : Aside0 (Kept w w1007 (fun k_ => P0_10_ k_)) := ⟨(by rw [hw]; exact (by repeat (first | (with_reducible first | exact HK.out | apply Kept.alloc | apply Kept.drewN | apply Kept.drew | refine Kept.setCell ?_ (.inr GW154.out) _ | refine Kept.setCell ?_ (.inr GW155.out) _) | exact HK.out)))⟩; have n4_ : Aside0 (Below w0.heap.size w0 w1007) := ⟨(by rw [hw]; exact wB)⟩; clear hw; clear HO0_10; clear BK154; clear BK155; clear HK; clear HB; have HO0_10 := n0_; have BK154 := n1_; have BK155 := n2_; have HK := n3_; have HB := n4_; clear n0_ n1_ n2_ n3_ n4_))
 refine bodyPost_ret (results_ct rfl _ _ gb155 25 #[.int .i64 a0_0, .int .i64 a0_1, .int .i64 a0_2, .int .i64 a0_3, .int .i64 a0_4, .int .i64 a0_5, .int .i64 a0_6, .bool a0_7, .int .i64 a0_8, .bool true, .slice Ao1001 l0_10.length co1001, .slice A0_11 l0_11.length c0_11] (0, 0) _ rfl (Bh BK155) Try.underlying25 rfl (by kernel_rfl)) rfl ?_
 exact ⟨_, by first | rfl | (simp [errW_none, errW_some] <;> rfl) | (simp [*, errW_none, errW_some] <;> rfl), by (with_reducible repeat (first | apply Kd.R_alloc | apply Kd.R_drewN | apply Kd.R_drew)); exact HO0_10.out, wB, by repeat (first | (with_reducible first | exact HK.out | apply Kept.alloc | apply Kept.drewN | apply Kept.drew | refine Kept.setCell ?_ (.inr GW154.out) _ | refine Kept.setCell ?_ (.inr GW155.out) _) | exact HK.out)⟩
 }
 {
 go_wp2_with (first | ((with_reducible refine gate_dst (N := 2) rfl ?_); (try (refine gate_guard (by rfl) ?_; dsimp only)); refine box_event ?hg (N := 2) ?hd (cs := #[.int .i64 a0_0, .int .i64 a0_1, .int .i64 a0_2, .int .i64 a0_3, .int .i64 a0_4, .int .i64 a0_5, .int .i64 a0_6, .bool a0_7, .int .i64 a0_8, .bool a0_9, .slice Ao1001 l0_10.length co1001, .slice A0_11 l0_11.length c0_11]) (t := 25) ?hr ?_; (case hd => rfl); (case hg => rfl); (case hr => first | (go_simp; done) | (go_simp; rfl)); intro gb154 hg w1002 hbox hb; have n0_ := Aside0.mk (Kd.R_below (Rh HO0_10) hb); have n1_ := Aside0.mk (Kept.below (S := (fun k_ => P0_10_ k_)) (by repeat (first | (with_reducible first | exact HK.out | apply Kept.alloc | apply Kept.drewN | apply Kept.drew) | exact HK.out)) hb); have n2_ := Aside0.mk (below_step wB hb); have n3_ := Aside0.mk (hbox); have n4_ := Aside0.mk ((by rw [hg]; exact (by first | exact HK.out.1 | exact (show Kept w _ (fun k_ => P0_10_ k_) from by repeat (first | (with_reducible first | exact HK.out | apply Kept.alloc | apply Kept.drewN | apply Kept.drew) | exact HK.out)).1) : w.heap.size ≤ gb154)); have n5_ := Aside0.mk ((by rw [hg]; exact (below_size wB) : w0.heap.size ≤ gb154)); clear HO0_10; clear HK; clear HB; have HO0_10 := n0_; have HK := n1_; have HB := n2_; have BK154 := n3_; have GW154 := n4_; have GE154 := n5_; clear n0_ n1_ n2_ n3_ n4_ n5_; clear hb hbox hg) | ((with_reducible refine gate_dst (N := 4) rfl ?_); (try (refine gate_guard (by rfl) ?_; dsimp only)); refine box_event ?hg (N := 4) ?hd (cs := #[.int .i64 0, .int .i64 0, .int .i64 0, .int .i64 0, .int .i64 0, .int .i64 0, .int .i64 0, .bool false, .int .i64 0, .bool false, .slice none 0 0, .slice none 0 0]) (t := 25) ?hr ?_; (case hd => rfl); (case hg => rfl); (case hr => first | (go_simp; done) | (go_simp; rfl)); intro gb155 hg w1003 hbox hb; have n0_ := Aside0.mk (Kd.R_below (Rh HO0_10) hb); have n1_ := Aside0.mk (blk_below (Bh BK154) hb); have n2_ := Aside0.mk (Kept.below (S := (fun k_ => P0_10_ k_)) (by repeat (first | (with_reducible first | exact HK.out | apply Kept.alloc | apply Kept.drewN | apply Kept.drew | refine Kept.setCell ?_ (.inr GW154.out) _) | exact HK.out)) hb); have n3_ := Aside0.mk (below_step wB hb); have n4_ := Aside0.mk (hbox); have n5_ := Aside0.mk ((by rw [hg]; exact (by first | exact HK.out.1 | exact (show Kept w _ (fun k_ => P0_10_ k_) from by repeat (first | (with_reducible first | exact HK.out | apply Kept.alloc | apply Kept.drewN | apply Kept.drew | refine Kept.setCell ?_ (.inr GW154.out) _) | exact HK.out)).1) : w.heap.size ≤ gb155)); have n6_ := Aside0.mk ((by rw [hg]; exact (below_size wB) : w0.heap.size ≤ gb155)); have n7_ := Aside0.mk ((by rw [hg]; exact Nat.ne_of_lt (blk_lt (Bh BK154)) : gb154 ≠ gb155)); have n8_ := Aside0.mk ((by rw [hg]; exact Nat.ne_of_gt (blk_lt (Bh BK154)) : gb155 ≠ gb154)); clear HO0_10; clear BK154; clear HK; clear HB; have HO0_10 := n0_; have BK154 := n1_; have HK := n2_; have HB := n3_; have BK155 := n4_; have GW155 := n5_; have GE155 := n6_; have NB154_155 := n7_; have NB155_154 := n8_; clear n0_ n1_ n2_ n3_ n4_ n5_ n6_ n7_ n8_; clear hb hbox hg; have p156 : 0 ≤ (0 : Int) := (by omega); have q156 : 0 < (l1.length : Int) := of_decide_eq_true (by first | (with_reducible assumption) | assumption); obtain ⟨ad156, e156, hx156_0⟩ := Kd.at_int (Kd.C_kept_now HR1.out HK.out) 0 p156 q156; cases e156; have qi156 : (0 < l1.length) = True := eq_true (by omega); (try rw [show ((0 : Int)).toNat = 0 from rfl] at hx156_0); (try rw [Addr.add_zero'] at hx156_0); replace p156 := eq_true p156; replace q156 := eq_true q156; have hnb1004 := NB154_155.out; have hnc1004 := NB155_154.out; obtain ⟨⟨hcz1005_0, hcz1005_1, hcz1005_2, hcz1005_3, hcz1005_4, hcz1005_5, hcz1005_6, hcz1005_7, hcz1005_8, hcz1005_9, hcz1005_10, hcz1005_11⟩, hfz1005_0, hfz1005_1, hfz1005_2, hfz1005_3, hfz1005_4, hfz1005_5, hfz1005_6, hfz1005_7, hfz1005_8, hfz1005_9, hfz1005_10, hfz1005_11⟩ := cells12 BK154.out; obtain ⟨⟨hcz1006_0, hcz1006_1, hcz1006_2, hcz1006_3, hcz1006_4, hcz1006_5, hcz1006_6, hcz1006_7, hcz1006_8, hcz1006_9, hcz1006_10, hcz1006_11⟩, hfz1006_0, hfz1006_1, hfz1006_2, hfz1006_3, hfz1006_4, hfz1006_5, hfz1006_6, hfz1006_7, hfz1006_8, hfz1006_9, hfz1006_10, hfz1006_11⟩ := cells12 BK155.out) | ((with_reducible refine gate_store (t := 25) (p := 4) rfl ?_); (try (rw [drewN_self w1003]; generalize hq_ : World.drewN w1003 _ = w1003; have n0_ := Aside0.mk (Kd.R_at hq_ HO0_10.out); have n1_ := Aside0.mk (blk_at hq_ BK154.out); have n2_ := Aside0.mk (blk_at hq_ BK155.out); have n3_ := Aside0.mk (kept_at hq_ HK.out); have n4_ := Aside0.mk (below_at hq_ HB.out); clear hq_ HO0_10 BK154 BK155 HK HB; have HO0_10 := n0_; have BK154 := n1_; have BK155 := n2_; have HK := n3_; have HB := n4_; clear n0_ n1_ n2_ n3_ n4_; (try (obtain ⟨⟨hcyBK154_0, hcyBK154_1, hcyBK154_2, hcyBK154_3, hcyBK154_4, hcyBK154_5, hcyBK154_6, hcyBK154_7, hcyBK154_8, hcyBK154_9, hcyBK154_10, hcyBK154_11⟩, hfyBK154_0, hfyBK154_1, hfyBK154_2, hfyBK154_3, hfyBK154_4, hfyBK154_5, hfyBK154_6, hfyBK154_7, hfyBK154_8, hfyBK154_9, hfyBK154_10, hfyBK154_11⟩ := cells12 BK154.out)); (try (obtain ⟨⟨hcyBK155_0, hcyBK155_1, hcyBK155_2, hcyBK155_3, hcyBK155_4, hcyBK155_5, hcyBK155_6, hcyBK155_7, hcyBK155_8, hcyBK155_9, hcyBK155_10, hcyBK155_11⟩, hfyBK155_0, hfyBK155_1, hfyBK155_2, hfyBK155_3, hfyBK155_4, hfyBK155_5, hfyBK155_6, hfyBK155_7, hfyBK155_8, hfyBK155_9, hfyBK155_10, hfyBK155_11⟩ := cells12 BK155.out)))); refine store_event (t := 25) (p := 4) (v := ?_) (w1 := (put12 w1003 gb155 (.int .i64 a0_0) (.int .i64 a0_1) (.int .i64 a0_2) (.int .i64 a0_3) (.int .i64 a0_4) (.int .i64 a0_5) (.int .i64 a0_6) (.bool a0_7) (.int .i64 a0_8) (.bool a0_9) (.slice Ao1001 l0_10.length co1001) (.slice A0_11 l0_11.length c0_11))) ?hg ?ho ?hn ?hr ?_; (case ho => rfl); (case hg => rfl); (case hn => rfl); (case hr => first | (go_simp; done) | (go_simp; rfl)); intro w1007 hw; have n0_ : Aside0 (Kd.R k60 60 w1007 w0.heap.size (fun k_ => (P0_10_ k_ ∨ w.heap.size ≤ k_)) (.slice Ao1001 l0_10.length co1001) l0_10) := ⟨(by rw [hw]; exact (by (with_reducible repeat (first | apply Kd.R_alloc | apply Kd.R_drewN | apply Kd.R_drew)); exact Kd.R_mono (Kd.R_step (Kd.R_types HO0_10.out BK155.out (by decide)) (fun _ hk _ => far12 hk.2)) (fun _ hk => hk.1)))⟩; have n1_ : Aside0 (w1007.heap[gb154]? = some (.cells #[.int .i64 a0_0, .int .i64 a0_1, .int .i64 a0_2, .int .i64 a0_3, .int .i64 a0_4, .int .i64 a0_5, .int .i64 a0_6, .bool a0_7, .int .i64 a0_8, .bool a0_9, .slice Ao1001 l0_10.length co1001, .slice A0_11 l0_11.length c0_11] 25 (0, 0))) := ⟨(by rw [hw]; exact (by refine (far12 NB154_155.out).trans ?_; (with_reducible repeat (first | refine blk_drewN ?_ _ | refine blk_drew ?_ | refine blk_alloc ?_ _)); exact BK154.out))⟩; have n2_ : Aside0 (w1007.heap[gb155]? = some (.cells #[.int .i64 a0_0, .int .i64 a0_1, .int .i64 a0_2, .int .i64 a0_3, .int .i64 a0_4, .int .i64 a0_5, .int .i64 a0_6, .bool a0_7, .int .i64 a0_8, .bool a0_9, .slice Ao1001 l0_10.length co1001, .slice A0_11 l0_11.length c0_11] 25 (0, 0))) := ⟨(by rw [hw]; exact (by apply set12; (with_reducible repeat (first | refine blk_drewN ?_ _ | refine blk_drew ?_ | refine blk_alloc ?_ _)); exact BK155.out))⟩; have n3_ : Aside0 (Kept w w1007 (fun k_ => P0_10_ k_)) := ⟨(by rw [hw]; exact (by repeat (first | (with_reducible first | exact HK.out | apply Kept.alloc | apply Kept.drewN | apply Kept.drew | refine Kept.setCell ?_ (.inr GW154.out) _ | refine Kept.setCell ?_ (.inr GW155.out) _) | exact HK.out)))⟩; have n4_ : Aside0 (Below w0.heap.size w0 w1007) := ⟨(by rw [hw]; exact wB)⟩; clear hw; clear HO0_10; clear BK154; clear BK155; clear HK; clear HB; have HO0_10 := n0_; have BK154 := n1_; have BK155 := n2_; have HK := n3_; have HB := n4_; clear n0_ n1_ n2_ n3_ n4_))
 refine bodyPost_ret (results_ct rfl _ _ gb155 25 #[.int .i64 a0_0, .int .i64 a0_1, .int .i64 a0_2, .int .i64 a0_3, .int .i64 a0_4, .int .i64 a0_5, .int .i64 a0_6, .bool a0_7, .int .i64 a0_8, .bool a0_9, .slice Ao1001 l0_10.length co1001, .slice A0_11 l0_11.length c0_11] (0, 0) _ rfl (Bh BK155) Try.underlying25 rfl (by kernel_rfl)) rfl ?_
 exact ⟨_, by first | rfl | (simp [errW_none, errW_some] <;> rfl) | (simp [*, errW_none, errW_some] <;> rfl), by (with_reducible repeat (first | apply Kd.R_alloc | apply Kd.R_drewN | apply Kd.R_drew)); exact HO0_10.out, wB, by repeat (first | (with_reducible first | exact HK.out | apply Kept.alloc | apply Kept.drewN | apply Kept.drew | refine Kept.setCell ?_ (.inr GW154.out) _ | refine Kept.setCell ?_ (.inr GW155.out) _) | exact HK.out)⟩
 }
 {
 go_upto_region 18 with (first | ((with_reducible refine gate_dst (N := 2) rfl ?_); (try (refine gate_guard (by rfl) ?_; dsimp only)); refine box_event ?hg (N := 2) ?hd (cs := #[.int .i64 a0_0, .int .i64 a0_1, .int .i64 a0_2, .int .i64 a0_3, .int .i64 a0_4, .int .i64 a0_5, .int .i64 a0_6, .bool a0_7, .int .i64 a0_8, .bool a0_9, .slice Ao1001 l0_10.length co1001, .slice A0_11 l0_11.length c0_11]) (t := 25) ?hr ?_; (case hd => rfl); (case hg => rfl); (case hr => first | (go_simp; done) | (go_simp; rfl)); intro gb154 hg w1002 hbox hb; have n0_ := Aside0.mk (Kd.R_below (Rh HO0_10) hb); have n1_ := Aside0.mk (Kept.below (S := (fun k_ => P0_10_ k_)) (by repeat (first | (with_reducible first | exact HK.out | apply Kept.alloc | apply Kept.drewN | apply Kept.drew) | exact HK.out)) hb); have n2_ := Aside0.mk (below_step wB hb); have n3_ := Aside0.mk (hbox); have n4_ := Aside0.mk ((by rw [hg]; exact (by first | exact HK.out.1 | exact (show Kept w _ (fun k_ => P0_10_ k_) from by repeat (first | (with_reducible first | exact HK.out | apply Kept.alloc | apply Kept.drewN | apply Kept.drew) | exact HK.out)).1) : w.heap.size ≤ gb154)); have n5_ := Aside0.mk ((by rw [hg]; exact (below_size wB) : w0.heap.size ≤ gb154)); clear HO0_10; clear HK; clear HB; have HO0_10 := n0_; have HK := n1_; have HB := n2_; have BK154 := n3_; have GW154 := n4_; have GE154 := n5_; clear n0_ n1_ n2_ n3_ n4_ n5_; clear hb hbox hg) | ((with_reducible refine gate_dst (N := 4) rfl ?_); (try (refine gate_guard (by rfl) ?_; dsimp only)); refine box_event ?hg (N := 4) ?hd (cs := #[.int .i64 0, .int .i64 0, .int .i64 0, .int .i64 0, .int .i64 0, .int .i64 0, .int .i64 0, .bool false, .int .i64 0, .bool false, .slice none 0 0, .slice none 0 0]) (t := 25) ?hr ?_; (case hd => rfl); (case hg => rfl); (case hr => first | (go_simp; done) | (go_simp; rfl)); intro gb155 hg w1003 hbox hb; have n0_ := Aside0.mk (Kd.R_below (Rh HO0_10) hb); have n1_ := Aside0.mk (blk_below (Bh BK154) hb); have n2_ := Aside0.mk (Kept.below (S := (fun k_ => P0_10_ k_)) (by repeat (first | (with_reducible first | exact HK.out | apply Kept.alloc | apply Kept.drewN | apply Kept.drew | refine Kept.setCell ?_ (.inr GW154.out) _) | exact HK.out)) hb); have n3_ := Aside0.mk (below_step wB hb); have n4_ := Aside0.mk (hbox); have n5_ := Aside0.mk ((by rw [hg]; exact (by first | exact HK.out.1 | exact (show Kept w _ (fun k_ => P0_10_ k_) from by repeat (first | (with_reducible first | exact HK.out | apply Kept.alloc | apply Kept.drewN | apply Kept.drew | refine Kept.setCell ?_ (.inr GW154.out) _) | exact HK.out)).1) : w.heap.size ≤ gb155)); have n6_ := Aside0.mk ((by rw [hg]; exact (below_size wB) : w0.heap.size ≤ gb155)); have n7_ := Aside0.mk ((by rw [hg]; exact Nat.ne_of_lt (blk_lt (Bh BK154)) : gb154 ≠ gb155)); have n8_ := Aside0.mk ((by rw [hg]; exact Nat.ne_of_gt (blk_lt (Bh BK154)) : gb155 ≠ gb154)); clear HO0_10; clear BK154; clear HK; clear HB; have HO0_10 := n0_; have BK154 := n1_; have HK := n2_; have HB := n3_; have BK155 := n4_; have GW155 := n5_; have GE155 := n6_; have NB154_155 := n7_; have NB155_154 := n8_; clear n0_ n1_ n2_ n3_ n4_ n5_ n6_ n7_ n8_; clear hb hbox hg; have p156 : 0 ≤ (0 : Int) := (by omega); have q156 : 0 < (l1.length : Int) := of_decide_eq_true (by first | (with_reducible assumption) | assumption); obtain ⟨ad156, e156, hx156_0⟩ := Kd.at_int (Kd.C_kept_now HR1.out HK.out) 0 p156 q156; cases e156; have qi156 : (0 < l1.length) = True := eq_true (by omega); (try rw [show ((0 : Int)).toNat = 0 from rfl] at hx156_0); (try rw [Addr.add_zero'] at hx156_0); replace p156 := eq_true p156; replace q156 := eq_true q156))
 (try simp only [Act.put, List.setIfInBounds_toArray, List.set_cons_zero, List.set_cons_succ])
 go_cut [58] (fun v58 wc => ∃ (kq : Nat) (x58_14 : Bool), v58 = .bool x58_14 ∧ Aside0 (spec_l11Option.j0 kq l1 x58_14 a0_0 a0_1 a0_2 a0_3 a0_4 a0_5 a0_6 a0_7 a0_8 a0_9 l0_10 l0_11 = some (r1, r2, r3, r4, r5, r6, r7, r8, r9, r10, r11, r12)) ∧ Aside0 (kq ≤ k) ∧ Aside0 (Kd.R k60 60 wc w0.heap.size (fun k_ => (P0_10_ k_ ∨ w.heap.size ≤ k_)) (.slice Ao1001 l0_10.length co1001) l0_10) ∧ Aside0 (wc.heap[gb154]? = some (.cells #[.int .i64 a0_0, .int .i64 a0_1, .int .i64 a0_2, .int .i64 a0_3, .int .i64 a0_4, .int .i64 a0_5, .int .i64 a0_6, .bool a0_7, .int .i64 a0_8, .bool a0_9, (.slice Ao1001 l0_10.length co1001), (.slice A0_11 l0_11.length c0_11)] 25 (0, 0))) ∧ Aside0 (wc.heap[gb155]? = some (.cells #[.int .i64 0, .int .i64 0, .int .i64 0, .int .i64 0, .int .i64 0, .int .i64 0, .int .i64 0, .bool false, .int .i64 0, .bool false, (.slice none 0 0), (.slice none 0 0)] 25 (0, 0))) ∧ Aside0 (Kept w wc (fun k_ => P0_10_ k_)) ∧ Aside0 (Below w0.heap.size w0 wc))
 case first => (
 have H := HC15.out
 clear HC15
 by_cases c1004 : (l1.length : Int) < 10
 rw [if_pos c1004] at H
 have c1004b0 : decide ((l1.length : Int) < 10) = true := decide_eq_true c1004
 have c1004b1 : decide (l1.length < 10) = true := decide_eq_true (by omega)
 clear c1004
 (first | rw [c1004b0] | rw [c1004b1] | (simp only [i64_w, i32_w]; rw [c1004b0]) | skip)
 have H' := Aside0.mk H
 clear H
 rotate_left
 rw [if_neg c1004] at H
 have c1004b0 : decide ((l1.length : Int) < 10) = false := decide_eq_false c1004
 have c1004b1 : decide (l1.length < 10) = false := decide_eq_false (by omega)
 clear c1004
 (first | rw [c1004b0] | rw [c1004b1] | (simp only [i64_w, i32_w]; rw [c1004b0]) | skip)
 by_cases c1005 : (l1.length : Int) > 34
 rw [if_pos c1005] at H
 have c1005b0 : decide (34 < (l1.length : Int)) = true := decide_eq_true c1005
 have c1005b1 : decide (34 < l1.length) = true := decide_eq_true (by omega)
 clear c1005
 have H' := Aside0.mk H
 clear H
 rotate_left
 rw [if_neg c1005] at H
 have c1005b0 : decide (34 < (l1.length : Int)) = false := decide_eq_false c1005
 have c1005b1 : decide (34 < l1.length) = false := decide_eq_false (by omega)
 clear c1005
 have H' := Aside0.mk H
 clear H
 rotate_left
 all_goals (
 go_wp2
 go_meet
 )
 iterate 2 (
 focus (
 case rel => exact ⟨_, (true), (by first | rfl | (simp; done) | (simp [*]; done)), H', ⟨by first | omega | exact Nat.le_refl _⟩, ⟨Rh HO0_10⟩, ⟨Bh BK154⟩, ⟨Bh BK155⟩, ⟨by repeat (first | (with_reducible first | exact HK.out | apply Kept.alloc | apply Kept.drewN | apply Kept.drew | refine Kept.setCell ?_ (.inr GW154.out) _ | refine Kept.setCell ?_ (.inr GW155.out) _) | exact HK.out)⟩, ⟨wB⟩⟩
 )
 )
 {
 case rel => exact ⟨_, ((((l1.length : Int) % 8) != 2)), (by first | rfl | (simp; done) | (simp [*]; done)), H', ⟨by first | omega | exact Nat.le_refl _⟩, ⟨Rh HO0_10⟩, ⟨Bh BK154⟩, ⟨Bh BK155⟩, ⟨by repeat (first | (with_reducible first | exact HK.out | apply Kept.alloc | apply Kept.drewN | apply Kept.drew | refine Kept.setCell ?_ (.inr GW154.out) _ | refine Kept.setCell ?_ (.inr GW155.out) _) | exact HK.out)⟩, ⟨wB⟩⟩
 }
 )
 case rest => (
 clear HC15
 try clear c0
 try clear c1
 try clear p1
 try clear q1
 try clear hx1
 try clear qi1
 try clear c3
 try clear c3b0
 try clear c3b1
 try clear c4
 try clear c4b0
 try clear c4b1
 try clear c5
 try clear c5b0
 try clear c5b1
 try clear c6
 try clear c6b0
 try clear c6b1
 try clear p6
 try clear c8
 try clear c8b0
 try clear c8b1
 try clear c9
 try clear c9b0
 try clear c9b1
 try clear c10
 try clear c10b0
 try clear c10b1
 try clear q10
 try clear c11
 try clear c11b0
 try clear c12
 try clear c12b0
 try clear c12b1
 try clear c13
 try clear c13b0
 try clear c13b1
 try clear c14
 try clear c14b0
 try clear c14b1
 try clear p156
 try clear q156
 try clear hx156
 try clear qi156
 try clear p162
 try clear q162
 try clear hx162
 try clear qi162
 try clear c1004
 try clear c1004b0
 try clear c1004b1
 try clear q1004
 try clear c1005
 try clear c1005b0
 try clear c1005b1
 try clear hcz1005_0 hcz1005_1 hcz1005_10 hcz1005_11 hcz1005_2 hcz1005_3 hcz1005_4 hcz1005_5 hcz1005_6 hcz1005_7 hcz1005_8 hcz1005_9 hfz1005_0 hfz1005_1 hfz1005_10 hfz1005_11 hfz1005_2 hfz1005_3 hfz1005_4 hfz1005_5 hfz1005_6 hfz1005_7 hfz1005_8 hfz1005_9
 try clear hcz1006_0 hcz1006_1 hcz1006_10 hcz1006_11 hcz1006_2 hcz1006_3 hcz1006_4 hcz1006_5 hcz1006_6 hcz1006_7 hcz1006_8 hcz1006_9 hfz1006_0 hfz1006_1 hfz1006_10 hfz1006_11 hfz1006_2 hfz1006_3 hfz1006_4 hfz1006_5 hfz1006_6 hfz1006_7 hfz1006_8 hfz1006_9
 try clear hcz1007_0 hcz1007_1 hcz1007_10 hcz1007_11 hcz1007_2 hcz1007_3 hcz1007_4 hcz1007_5 hcz1007_6 hcz1007_7 hcz1007_8 hcz1007_9 hfz1007_0 hfz1007_1 hfz1007_10 hfz1007_11 hfz1007_2 hfz1007_3 hfz1007_4 hfz1007_5 hfz1007_6 hfz1007_7 hfz1007_8 hfz1007_9
 try clear hcz1008_0 hcz1008_1 hcz1008_10 hcz1008_11 hcz1008_2 hcz1008_3 hcz1008_4 hcz1008_5 hcz1008_6 hcz1008_7 hcz1008_8 hcz1008_9 hfz1008_0 hfz1008_1 hfz1008_10 hfz1008_11 hfz1008_2 hfz1008_3 hfz1008_4 hfz1008_5 hfz1008_6 hfz1008_7 hfz1008_8 hfz1008_9
 try clear hx156_0
 try clear hx162_0
 try clear p156
 try clear p162
 try clear q1004
 try clear q156
 try clear q162
 obtain ⟨kq, x58_14, rfl, HA, HJ14, HO_155010, BK154, BK155, HK, HB⟩ := hcut
 cases kq with
 | zero => exact absurd HA.out (by simp [spec_l11Option.j0])
 | succ kj14 => {
 have H := HA.out
 clear HA
 simp only [spec_l11Option.j0] at H
 by_cases c1006 : x58_14 = true
 {
 subst c1006
 have H1 : (some (a0_0, a0_1, a0_2, a0_3, a0_4, a0_5, a0_6, a0_7, a0_8, a0_9, l0_10, false)) = some (r1, r2, r3, r4, r5, r6, r7, r8, r9, r10, r11, r12) := by rw [if_pos rfl] at H; exact H
 clear H
 have H := H1
 clear H1
 simp only [Option.some.injEq, Prod.mk.injEq] at H
 obtain ⟨rfl, rfl, rfl, rfl, rfl, rfl, rfl, rfl, rfl, rfl, rfl, rfl⟩ := H
 have hnb2001 := NB154_155.out
 have hnc2001 := NB155_154.out
 obtain ⟨⟨hcz2002_0, hcz2002_1, hcz2002_2, hcz2002_3, hcz2002_4, hcz2002_5, hcz2002_6, hcz2002_7, hcz2002_8, hcz2002_9, hcz2002_10, hcz2002_11⟩, hfz2002_0, hfz2002_1, hfz2002_2, hfz2002_3, hfz2002_4, hfz2002_5, hfz2002_6, hfz2002_7, hfz2002_8, hfz2002_9, hfz2002_10, hfz2002_11⟩ := cells12 BK154.out
 obtain ⟨⟨hcz2003_0, hcz2003_1, hcz2003_2, hcz2003_3, hcz2003_4, hcz2003_5, hcz2003_6, hcz2003_7, hcz2003_8, hcz2003_9, hcz2003_10, hcz2003_11⟩, hfz2003_0, hfz2003_1, hfz2003_2, hfz2003_3, hfz2003_4, hfz2003_5, hfz2003_6, hfz2003_7, hfz2003_8, hfz2003_9, hfz2003_10, hfz2003_11⟩ := cells12 BK155.out
 go_wp2_with (first | ((with_reducible refine gate_store (t := 25) (p := 4) rfl ?_); (try (rw [drewN_self wc]; generalize hq_ : World.drewN wc _ = wc; have n0_ := Aside0.mk (Kd.R_at hq_ HO_155010.out); have n1_ := Aside0.mk (blk_at hq_ BK154.out); have n2_ := Aside0.mk (blk_at hq_ BK155.out); have n3_ := Aside0.mk (kept_at hq_ HK.out); have n4_ := Aside0.mk (below_at hq_ HB.out); clear hq_ HO_155010 BK154 BK155 HK HB; have HO_155010 := n0_; have BK154 := n1_; have BK155 := n2_; have HK := n3_; have HB := n4_; clear n0_ n1_ n2_ n3_ n4_; (try (obtain ⟨⟨hcyBK154_0, hcyBK154_1, hcyBK154_2, hcyBK154_3, hcyBK154_4, hcyBK154_5, hcyBK154_6, hcyBK154_7, hcyBK154_8, hcyBK154_9, hcyBK154_10, hcyBK154_11⟩, hfyBK154_0, hfyBK154_1, hfyBK154_2, hfyBK154_3, hfyBK154_4, hfyBK154_5, hfyBK154_6, hfyBK154_7, hfyBK154_8, hfyBK154_9, hfyBK154_10, hfyBK154_11⟩ := cells12 BK154.out)); (try (obtain ⟨⟨hcyBK155_0, hcyBK155_1, hcyBK155_2, hcyBK155_3, hcyBK155_4, hcyBK155_5, hcyBK155_6, hcyBK155_7, hcyBK155_8, hcyBK155_9, hcyBK155_10, hcyBK155_11⟩, hfyBK155_0, hfyBK155_1, hfyBK155_2, hfyBK155_3, hfyBK155_4, hfyBK155_5, hfyBK155_6, hfyBK155_7, hfyBK155_8, hfyBK155_9, hfyBK155_10, hfyBK155_11⟩ := cells12 BK155.out)))); refine store_event (t := 25) (p := 4) (v := ?_) (w1 := (put12 wc gb155 (.int .i64 a0_0) (.int .i64 a0_1) (.int .i64 a0_2) (.int .i64 a0_3) (.int .i64 a0_4) (.int .i64 a0_5) (.int .i64 a0_6) (.bool a0_7) (.int .i64 a0_8) (.bool a0_9) (.slice Ao1001 l0_10.length co1001) (.slice A0_11 l0_11.length c0_11))) ?hg ?ho ?hn ?hr ?_; (case ho => rfl); (case hg => rfl); (case hn => rfl); (case hr => first | (go_simp; done) | (go_simp; rfl)); intro w2004 hw; have n0_ : Aside0 (Kd.R k60 60 w2004 w0.heap.size (fun k_ => (P0_10_ k_ ∨ w.heap.size ≤ k_)) (.slice Ao1001 l0_10.length co1001) l0_10) := ⟨(by rw [hw]; exact (by (with_reducible repeat (first | apply Kd.R_alloc | apply Kd.R_drewN | apply Kd.R_drew)); exact Kd.R_mono (Kd.R_step (Kd.R_types HO_155010.out BK155.out (by decide)) (fun _ hk _ => far12 hk.2)) (fun _ hk => hk.1)))⟩; have n1_ : Aside0 (w2004.heap[gb154]? = some (.cells #[.int .i64 a0_0, .int .i64 a0_1, .int .i64 a0_2, .int .i64 a0_3, .int .i64 a0_4, .int .i64 a0_5, .int .i64 a0_6, .bool a0_7, .int .i64 a0_8, .bool a0_9, .slice Ao1001 l0_10.length co1001, .slice A0_11 l0_11.length c0_11] 25 (0, 0))) := ⟨(by rw [hw]; exact (by refine (far12 NB154_155.out).trans ?_; (with_reducible repeat (first | refine blk_drewN ?_ _ | refine blk_drew ?_ | refine blk_alloc ?_ _)); exact BK154.out))⟩; have n2_ : Aside0 (w2004.heap[gb155]? = some (.cells #[.int .i64 a0_0, .int .i64 a0_1, .int .i64 a0_2, .int .i64 a0_3, .int .i64 a0_4, .int .i64 a0_5, .int .i64 a0_6, .bool a0_7, .int .i64 a0_8, .bool a0_9, .slice Ao1001 l0_10.length co1001, .slice A0_11 l0_11.length c0_11] 25 (0, 0))) := ⟨(by rw [hw]; exact (by apply set12; (with_reducible repeat (first | refine blk_drewN ?_ _ | refine blk_drew ?_ | refine blk_alloc ?_ _)); exact BK155.out))⟩; have n3_ : Aside0 (Kept w w2004 (fun k_ => P0_10_ k_)) := ⟨(by rw [hw]; exact (by repeat (first | (with_reducible first | exact HK.out | apply Kept.alloc | apply Kept.drewN | apply Kept.drew | refine Kept.setCell ?_ (.inr GW154.out) _ | refine Kept.setCell ?_ (.inr GW155.out) _) | exact HK.out)))⟩; have n4_ : Aside0 (Below w0.heap.size w0 w2004) := ⟨(by rw [hw]; exact wB)⟩; clear hw; clear HO_155010; clear BK154; clear BK155; clear HK; clear HB; have HO_155010 := n0_; have BK154 := n1_; have BK155 := n2_; have HK := n3_; have HB := n4_; clear n0_ n1_ n2_ n3_ n4_))
 refine bodyPost_ret (results_ct rfl _ _ gb155 25 #[.int .i64 a0_0, .int .i64 a0_1, .int .i64 a0_2, .int .i64 a0_3, .int .i64 a0_4, .int .i64 a0_5, .int .i64 a0_6, .bool a0_7, .int .i64 a0_8, .bool a0_9, .slice Ao1001 l0_10.length co1001, .slice A0_11 l0_11.length c0_11] (0, 0) _ rfl (Bh BK155) Try.underlying25 rfl (by kernel_rfl)) rfl ?_
 exact ⟨_, by first | rfl | (simp [errW_none, errW_some] <;> rfl) | (simp [*, errW_none, errW_some] <;> rfl), by (with_reducible repeat (first | apply Kd.R_alloc | apply Kd.R_drewN | apply Kd.R_drew)); exact HO_155010.out, wB, by repeat (first | (with_reducible first | exact HK.out | apply Kept.alloc | apply Kept.drewN | apply Kept.drew | refine Kept.setCell ?_ (.inr GW154.out) _ | refine Kept.setCell ?_ (.inr GW155.out) _) | exact HK.out)⟩
 }
 {
 replace c1006 := Bool.eq_false_iff.mpr c1006
 subst c1006
 have H1 : (spec_l11Option.l0 kj14 l1 2 a0_0 a0_1 a0_2 a0_3 a0_4 a0_5 a0_6 a0_7 a0_8 a0_9 ([] : List (S60)) l0_11) = some (r1, r2, r3, r4, r5, r6, r7, r8, r9, r10, r11, r12) := by rw [if_neg (show ¬ (false = true) by decide)] at H; exact H
 clear H
 have H := H1
 clear H1
 have H' := Aside0.mk H
 clear H
 have hnb2001 := NB154_155.out
 have hnc2001 := NB155_154.out
 obtain ⟨⟨hcz2002_0, hcz2002_1, hcz2002_2, hcz2002_3, hcz2002_4, hcz2002_5, hcz2002_6, hcz2002_7, hcz2002_8, hcz2002_9, hcz2002_10, hcz2002_11⟩, hfz2002_0, hfz2002_1, hfz2002_2, hfz2002_3, hfz2002_4, hfz2002_5, hfz2002_6, hfz2002_7, hfz2002_8, hfz2002_9, hfz2002_10, hfz2002_11⟩ := cells12 BK154.out
 go_wp2
 go_loopg [6] kj14 (fun kq v6 w' => ∃ (x6_2 : Int) (x155010_2 : List (S60)) (u155010 : Value), v6 = .int .i64 x6_2 ∧ Aside0 (spec_l11Option.l0 kq l1 x6_2 a0_0 a0_1 a0_2 a0_3 a0_4 a0_5 a0_6 a0_7 a0_8 a0_9 x155010_2 l0_11 = some (r1, r2, r3, r4, r5, r6, r7, r8, r9, r10, r11, r12)) ∧ Aside0 (kq ≤ kj14) ∧ Aside0 (Kd.R k60 60 w' w0.heap.size (fun k_ => (P0_10_ k_ ∨ w.heap.size ≤ k_)) u155010 x155010_2) ∧ Aside0 (w'.heap[gb154]? = some (.cells #[.int .i64 a0_0, .int .i64 a0_1, .int .i64 a0_2, .int .i64 a0_3, .int .i64 a0_4, .int .i64 a0_5, .int .i64 a0_6, .bool a0_7, .int .i64 a0_8, .bool a0_9, u155010, (.slice A0_11 l0_11.length c0_11)] 25 (0, 0))) ∧ Aside0 (w'.heap[gb155]? = some (.cells #[.int .i64 0, .int .i64 0, .int .i64 0, .int .i64 0, .int .i64 0, .int .i64 0, .int .i64 0, .bool false, .int .i64 0, .bool false, (.slice none 0 0), (.slice none 0 0)] 25 (0, 0))) ∧ Aside0 (Kept w w' (fun k_ => P0_10_ k_)) ∧ Aside0 (Below w0.heap.size w0 w'))
 case atStart => exact ⟨(2), (([] : List (S60))), (.slice none 0 0), (by first | rfl | (simp; done) | (simp [*]; done)), H', ⟨Nat.le_refl _⟩, ⟨by first | exact Kd.R_nil _ _ _ _ _ | exact Kd.N_nil _ _ _ _ _ | exact Kd.V_nil _ _ _ _ _ | exact Kd.Q_nil _ _ _ _ _ | exact Kd.S_nil _ _ _ _ _⟩, ⟨by (with_reducible repeat (first | refine blk_drewN ?_ _ | refine blk_drew ?_ | refine blk_alloc ?_ _)); refine blk_put (cs := #[.int .i64 a0_0, .int .i64 a0_1, .int .i64 a0_2, .int .i64 a0_3, .int .i64 a0_4, .int .i64 a0_5, .int .i64 a0_6, .bool a0_7, .int .i64 a0_8, .bool a0_9, .slice Ao1001 l0_10.length co1001, .slice A0_11 l0_11.length c0_11]) ?_ 10 _ rfl; (with_reducible repeat (first | refine blk_drewN ?_ _ | refine blk_drew ?_ | refine blk_alloc ?_ _)); exact BK154.out⟩, ⟨by (with_reducible repeat (first | refine blk_drewN ?_ _ | refine blk_drew ?_ | refine blk_alloc ?_ _)); refine blk_far ?_ NB155_154.out _; (with_reducible repeat (first | refine blk_drewN ?_ _ | refine blk_drew ?_ | refine blk_alloc ?_ _)); exact BK155.out⟩, ⟨by repeat (first | (with_reducible first | exact HK.out | apply Kept.alloc | apply Kept.drewN | apply Kept.drew | refine Kept.setCell ?_ (.inr GW154.out) _ | refine Kept.setCell ?_ (.inr GW155.out) _) | exact HK.out)⟩, ⟨wB⟩⟩
 case round => (
 clear H'
 try clear c0
 try clear c1
 try clear p1
 try clear q1
 try clear hx1
 try clear qi1
 try clear c3
 try clear c3b0
 try clear c3b1
 try clear c4
 try clear c4b0
 try clear c4b1
 try clear c5
 try clear c5b0
 try clear c5b1
 try clear c6
 try clear c6b0
 try clear c6b1
 try clear p6
 try clear c8
 try clear c8b0
 try clear c8b1
 try clear c9
 try clear c9b0
 try clear c9b1
 try clear c10
 try clear c10b0
 try clear c10b1
 try clear q10
 try clear c11
 try clear c11b0
 try clear c12
 try clear c12b0
 try clear c12b1
 try clear c13
 try clear c13b0
 try clear c13b1
 try clear c14
 try clear c14b0
 try clear c14b1
 try clear p156
 try clear q156
 try clear hx156
 try clear qi156
 try clear p162
 try clear q162
 try clear hx162
 try clear qi162
 try clear c1004
 try clear c1004b0
 try clear c1004b1
 try clear q1004
 try clear c1005
 try clear c1005b0
 try clear c1005b1
 try clear c1006
 try clear hcz1005_0 hcz1005_1 hcz1005_10 hcz1005_11 hcz1005_2 hcz1005_3 hcz1005_4 hcz1005_5 hcz1005_6 hcz1005_7 hcz1005_8 hcz1005_9 hfz1005_0 hfz1005_1 hfz1005_10 hfz1005_11 hfz1005_2 hfz1005_3 hfz1005_4 hfz1005_5 hfz1005_6 hfz1005_7 hfz1005_8 hfz1005_9
 try clear hcz1006_0 hcz1006_1 hcz1006_10 hcz1006_11 hcz1006_2 hcz1006_3 hcz1006_4 hcz1006_5 hcz1006_6 hcz1006_7 hcz1006_8 hcz1006_9 hfz1006_0 hfz1006_1 hfz1006_10 hfz1006_11 hfz1006_2 hfz1006_3 hfz1006_4 hfz1006_5 hfz1006_6 hfz1006_7 hfz1006_8 hfz1006_9
 try clear hcz1007_0 hcz1007_1 hcz1007_10 hcz1007_11 hcz1007_2 hcz1007_3 hcz1007_4 hcz1007_5 hcz1007_6 hcz1007_7 hcz1007_8 hcz1007_9 hfz1007_0 hfz1007_1 hfz1007_10 hfz1007_11 hfz1007_2 hfz1007_3 hfz1007_4 hfz1007_5 hfz1007_6 hfz1007_7 hfz1007_8 hfz1007_9
 try clear hcz1008_0 hcz1008_1 hcz1008_10 hcz1008_11 hcz1008_2 hcz1008_3 hcz1008_4 hcz1008_5 hcz1008_6 hcz1008_7 hcz1008_8 hcz1008_9 hfz1008_0 hfz1008_1 hfz1008_10 hfz1008_11 hfz1008_2 hfz1008_3 hfz1008_4 hfz1008_5 hfz1008_6 hfz1008_7 hfz1008_8 hfz1008_9
 try clear hcz2002_0 hcz2002_1 hcz2002_10 hcz2002_11 hcz2002_2 hcz2002_3 hcz2002_4 hcz2002_5 hcz2002_6 hcz2002_7 hcz2002_8 hcz2002_9 hfz2002_0 hfz2002_1 hfz2002_10 hfz2002_11 hfz2002_2 hfz2002_3 hfz2002_4 hfz2002_5 hfz2002_6 hfz2002_7 hfz2002_8 hfz2002_9
 try clear hcz2003_0 hcz2003_1 hcz2003_10 hcz2003_11 hcz2003_2 hcz2003_3 hcz2003_4 hcz2003_5 hcz2003_6 hcz2003_7 hcz2003_8 hcz2003_9 hfz2003_0 hfz2003_1 hfz2003_10 hfz2003_11 hfz2003_2 hfz2003_3 hfz2003_4 hfz2003_5 hfz2003_6 hfz2003_7 hfz2003_8 hfz2003_9
 try clear hx156_0
 try clear hx162_0
 try clear p1
 try clear p156
 try clear p162
 try clear p6
 try clear q1
 try clear q10
 try clear q1004
 try clear q156
 try clear q162
 obtain ⟨x6_2, x155010_2, u155010, rfl, HA, HK2, HO_155010, BK154, BK155, HK, HB⟩ := hrel
 cases gk with
 | zero => exact absurd HA.out (by simp [spec_l11Option.l0])
 | succ k2 => {
 have H := HA.out
 clear HA
 simp only [spec_l11Option.l0] at H
 have HC2003 := Aside0.mk H
 clear H
 go_upto_region 22 with (fail)
 go_cut [70] (fun v70 wc => ∃ (kq : Nat) (x70_2002 : Bool), v70 = .bool x70_2002 ∧ Aside0 (spec_l11Option.j2 kq l1 x6_2 x70_2002 a0_0 a0_1 a0_2 a0_3 a0_4 a0_5 a0_6 a0_7 a0_8 a0_9 x155010_2 l0_11 = some (r1, r2, r3, r4, r5, r6, r7, r8, r9, r10, r11, r12)) ∧ Aside0 (kq ≤ k2) ∧ Aside0 (Kd.R k60 60 wc w0.heap.size (fun k_ => (P0_10_ k_ ∨ w.heap.size ≤ k_)) u155010 x155010_2) ∧ Aside0 (wc.heap[gb154]? = some (.cells #[.int .i64 a0_0, .int .i64 a0_1, .int .i64 a0_2, .int .i64 a0_3, .int .i64 a0_4, .int .i64 a0_5, .int .i64 a0_6, .bool a0_7, .int .i64 a0_8, .bool a0_9, u155010, (.slice A0_11 l0_11.length c0_11)] 25 (0, 0))) ∧ Aside0 (wc.heap[gb155]? = some (.cells #[.int .i64 0, .int .i64 0, .int .i64 0, .int .i64 0, .int .i64 0, .int .i64 0, .int .i64 0, .bool false, .int .i64 0, .bool false, (.slice none 0 0), (.slice none 0 0)] 25 (0, 0))) ∧ Aside0 (Kept w wc (fun k_ => P0_10_ k_)) ∧ Aside0 (Below w0.heap.size w0 wc))
 case first => (
 have H := HC2003.out
 clear HC2003
 by_cases c3001 : x6_2 < (l1.length : Int)
 {
 rw [if_pos c3001] at H
 have c3001b0 : decide (x6_2 < (l1.length : Int)) = true := decide_eq_true c3001
 clear c3001
 (first | rw [c3001b0] | rw [c3001b1] | (simp only [i64_w, i32_w]; rw [c3001b0]) | skip)
 have H' := Aside0.mk H
 clear H
 have hnb4001 := NB154_155.out
 have hnc4001 := NB155_154.out
 obtain ⟨⟨hcz4002_0, hcz4002_1, hcz4002_2, hcz4002_3, hcz4002_4, hcz4002_5, hcz4002_6, hcz4002_7, hcz4002_8, hcz4002_9, hcz4002_10, hcz4002_11⟩, hfz4002_0, hfz4002_1, hfz4002_2, hfz4002_3, hfz4002_4, hfz4002_5, hfz4002_6, hfz4002_7, hfz4002_8, hfz4002_9, hfz4002_10, hfz4002_11⟩ := cells12 BK154.out
 obtain ⟨Ao4003, co4003, eo4003⟩ := Kd.R_slice HO_155010.out
 subst eo4003
 go_wp2
 go_meet
 case rel => exact ⟨_, (decide ((x155010_2.length : Int) < 3)), (by first | rfl | (simp; done) | (simp [*]; done)), H', ⟨by have := HJ14.out; have := HK2.out; first | omega | exact Nat.le_refl _⟩, ⟨Rh HO_155010⟩, ⟨Bh BK154⟩, ⟨Bh BK155⟩, ⟨by repeat (first | (with_reducible first | exact HK.out | apply Kept.alloc | apply Kept.drewN | apply Kept.drew | refine Kept.setCell ?_ (.inr GW154.out) _ | refine Kept.setCell ?_ (.inr GW155.out) _) | exact HK.out)⟩, ⟨wB⟩⟩
 }
 {
 rw [if_neg c3001] at H
 have c3001b0 : decide (x6_2 < (l1.length : Int)) = false := decide_eq_false c3001
 clear c3001
 (first | rw [c3001b0] | rw [c3001b1] | (simp only [i64_w, i32_w]; rw [c3001b0]) | skip)
 have H' := Aside0.mk H
 clear H
 go_wp2
 go_meet
 case rel => exact ⟨_, (false), (by first | rfl | (simp; done) | (simp [*]; done)), H', ⟨by have := HJ14.out; have := HK2.out; first | omega | exact Nat.le_refl _⟩, ⟨Rh HO_155010⟩, ⟨Bh BK154⟩, ⟨Bh BK155⟩, ⟨by repeat (first | (with_reducible first | exact HK.out | apply Kept.alloc | apply Kept.drewN | apply Kept.drew | refine Kept.setCell ?_ (.inr GW154.out) _ | refine Kept.setCell ?_ (.inr GW155.out) _) | exact HK.out)⟩, ⟨wB⟩⟩
 }
 )
 case rest => (
 clear HC2003
 try clear c0
 try clear c1
 try clear p1
 try clear q1
 try clear hx1
 try clear qi1
 try clear c3
 try clear c3b0
 try clear c3b1
 try clear c4
 try clear c4b0
 try clear c4b1
 try clear c5
 try clear c5b0
 try clear c5b1
 try clear c6
 try clear c6b0
 try clear c6b1
 try clear p6
 try clear c8
 try clear c8b0
 try clear c8b1
 try clear c9
 try clear c9b0
 try clear c9b1
 try clear c10
 try clear c10b0
 try clear c10b1
 try clear q10
 try clear c11
 try clear c11b0
 try clear c12
 try clear c12b0
 try clear c12b1
 try clear c13
 try clear c13b0
 try clear c13b1
 try clear c14
 try clear c14b0
 try clear c14b1
 try clear p156
 try clear q156
 try clear hx156
 try clear qi156
 try clear p162
 try clear q162
 try clear hx162
 try clear qi162
 try clear c1004
 try clear c1004b0
 try clear c1004b1
 try clear q1004
 try clear c1005
 try clear c1005b0
 try clear c1005b1
 try clear c1006
 try clear c3001
 try clear c3001b0
 try clear c3001b1
 try clear hcz1005_0 hcz1005_1 hcz1005_10 hcz1005_11 hcz1005_2 hcz1005_3 hcz1005_4 hcz1005_5 hcz1005_6 hcz1005_7 hcz1005_8 hcz1005_9 hfz1005_0 hfz1005_1 hfz1005_10 hfz1005_11 hfz1005_2 hfz1005_3 hfz1005_4 hfz1005_5 hfz1005_6 hfz1005_7 hfz1005_8 hfz1005_9
 try clear hcz1006_0 hcz1006_1 hcz1006_10 hcz1006_11 hcz1006_2 hcz1006_3 hcz1006_4 hcz1006_5 hcz1006_6 hcz1006_7 hcz1006_8 hcz1006_9 hfz1006_0 hfz1006_1 hfz1006_10 hfz1006_11 hfz1006_2 hfz1006_3 hfz1006_4 hfz1006_5 hfz1006_6 hfz1006_7 hfz1006_8 hfz1006_9
 try clear hcz1007_0 hcz1007_1 hcz1007_10 hcz1007_11 hcz1007_2 hcz1007_3 hcz1007_4 hcz1007_5 hcz1007_6 hcz1007_7 hcz1007_8 hcz1007_9 hfz1007_0 hfz1007_1 hfz1007_10 hfz1007_11 hfz1007_2 hfz1007_3 hfz1007_4 hfz1007_5 hfz1007_6 hfz1007_7 hfz1007_8 hfz1007_9
 try clear hcz1008_0 hcz1008_1 hcz1008_10 hcz1008_11 hcz1008_2 hcz1008_3 hcz1008_4 hcz1008_5 hcz1008_6 hcz1008_7 hcz1008_8 hcz1008_9 hfz1008_0 hfz1008_1 hfz1008_10 hfz1008_11 hfz1008_2 hfz1008_3 hfz1008_4 hfz1008_5 hfz1008_6 hfz1008_7 hfz1008_8 hfz1008_9
 try clear hcz2002_0 hcz2002_1 hcz2002_10 hcz2002_11 hcz2002_2 hcz2002_3 hcz2002_4 hcz2002_5 hcz2002_6 hcz2002_7 hcz2002_8 hcz2002_9 hfz2002_0 hfz2002_1 hfz2002_10 hfz2002_11 hfz2002_2 hfz2002_3 hfz2002_4 hfz2002_5 hfz2002_6 hfz2002_7 hfz2002_8 hfz2002_9
 try clear hcz2003_0 hcz2003_1 hcz2003_10 hcz2003_11 hcz2003_2 hcz2003_3 hcz2003_4 hcz2003_5 hcz2003_6 hcz2003_7 hcz2003_8 hcz2003_9 hfz2003_0 hfz2003_1 hfz2003_10 hfz2003_11 hfz2003_2 hfz2003_3 hfz2003_4 hfz2003_5 hfz2003_6 hfz2003_7 hfz2003_8 hfz2003_9
 try clear hcz4002_0 hcz4002_1 hcz4002_10 hcz4002_11 hcz4002_2 hcz4002_3 hcz4002_4 hcz4002_5 hcz4002_6 hcz4002_7 hcz4002_8 hcz4002_9 hfz4002_0 hfz4002_1 hfz4002_10 hfz4002_11 hfz4002_2 hfz4002_3 hfz4002_4 hfz4002_5 hfz4002_6 hfz4002_7 hfz4002_8 hfz4002_9
 try clear hx156_0
 try clear hx162_0
 try clear p1
 try clear p156
 try clear p162
 try clear p6
 try clear q1
 try clear q10
 try clear q1004
 try clear q156
 try clear q162
 obtain ⟨kq, x70_2002, rfl, HA, HJ2002, HO_155010, BK154, BK155, HK, HB⟩ := hcut
 cases kq with
 | zero => exact absurd HA.out (by simp [spec_l11Option.j2])
 | succ kj2002 => {
 have H := HA.out
 clear HA
 simp only [spec_l11Option.j2] at H
 by_cases c3002 : x70_2002 = true
 {
 subst c3002
 have H1 : (if 0 ≤ x6_2 then (if x6_2 ≤ (wrap64 (x6_2 + 4)) then (if (wrap64 (x6_2 + 4)) ≤ (l1.length : Int) then ((spec_l03Num.f kj2002 ((l1.take ((wrap64 (x6_2 + 4)) : Int).toNat).drop (x6_2 : Int).toNat)).bind fun t167 => (if 0 ≤ (wrap64 (x6_2 + 4)) then (if (wrap64 (x6_2 + 4)) ≤ (wrap64 (x6_2 + 8)) then (if (wrap64 (x6_2 + 8)) ≤ (l1.length : Int) then ((spec_l03Num.f kj2002 ((l1.take ((wrap64 (x6_2 + 8)) : Int).toNat).drop ((wrap64 (x6_2 + 4)) : Int).toNat)).bind fun t172 => (if x155010_2.length < 8796093022208 then (spec_l11Option.l0 kj2002 l1 (wrap64 (x6_2 + 8)) a0_0 a0_1 a0_2 a0_3 a0_4 a0_5 a0_6 a0_7 a0_8 a0_9 (x155010_2 ++ [(⟨t167, t172⟩ : S60)]) l0_11) else (none))) else (none)) else (none)) else (none))) else (none)) else (none)) else (none)) = some (r1, r2, r3, r4, r5, r6, r7, r8, r9, r10, r11, r12) := by rw [if_pos rfl] at H; exact H
 clear H
 have H := H1
 clear H1
 by_cases c3003 : 0 ≤ x6_2
 {
 rw [if_pos c3003] at H
 have c3003b0 := eq_true c3003
 have c3003b1 : decide (0 ≤ x6_2) = true := decide_eq_true c3003
 clear c3003
 by_cases c3004 : x6_2 ≤ (wrap64 (x6_2 + 4))
 {
 rw [if_pos c3004] at H
 have c3004b0 := eq_true c3004
 have c3004b1 : decide (x6_2 ≤ (wrap64 (x6_2 + 4))) = true := decide_eq_true c3004
 (try (have c3004bw0 := c3004b0; simp only [← i64_w] at c3004bw0))
 (try (have c3004bw1 := c3004b1; simp only [← i64_w] at c3004bw1))
 (try (have c3004bw2 := c3004b2; simp only [← i64_w] at c3004bw2))
 by_cases c3005 : (wrap64 (x6_2 + 4)) ≤ (l1.length : Int)
 {
 rw [if_pos c3005] at H
 have c3005b0 := eq_true c3005
 have c3005b1 : decide ((wrap64 (x6_2 + 4)) ≤ (l1.length : Int)) = true := decide_eq_true c3005
 (try (have c3005bw0 := c3005b0; simp only [← i64_w] at c3005bw0))
 (try (have c3005bw1 := c3005b1; simp only [← i64_w] at c3005bw1))
 (try (have c3005bw2 := c3005b2; simp only [← i64_w] at c3005bw2))
 obtain ⟨y163, hy163⟩ : ∃ y_ : List Int, y_ = ((l1.take ((wrap64 (x6_2 + 4)) : Int).toNat).drop (x6_2 : Int).toNat) := ⟨_, rfl⟩
 replace H : ((spec_l03Num.f kj2002 y163).bind fun t167 => (if 0 ≤ (wrap64 (x6_2 + 4)) then (if (wrap64 (x6_2 + 4)) ≤ (wrap64 (x6_2 + 8)) then (if (wrap64 (x6_2 + 8)) ≤ (l1.length : Int) then ((spec_l03Num.f kj2002 ((l1.take ((wrap64 (x6_2 + 8)) : Int).toNat).drop ((wrap64 (x6_2 + 4)) : Int).toNat)).bind fun t172 => (if x155010_2.length < 8796093022208 then (spec_l11Option.l0 kj2002 l1 (wrap64 (x6_2 + 8)) a0_0 a0_1 a0_2 a0_3 a0_4 a0_5 a0_6 a0_7 a0_8 a0_9 (x155010_2 ++ [(⟨t167, t172⟩ : S60)]) l0_11) else (none))) else (none)) else (none)) else (none))) = some (r1, r2, r3, r4, r5, r6, r7, r8, r9, r10, r11, r12) := by first | (rw [hy163]; with_reducible exact H) | (have H2_ := (Option.bind_some _ _).symm.trans H; rw [hy163]; with_reducible exact H2_) | (have H2_ := (Option.bind_some _ _).symm.trans H; with_reducible exact H2_) | with_reducible exact H | (rw [hy163]; exact H) | exact H
 have Ny163 := Aside0.mk hy163
 clear hy163
 replace H := Option.bind_eq_some_iff.mp H
 obtain ⟨t167, A30060, H⟩ := H
 have A3006 := Aside0.mk A30060
 clear A30060
 obtain ⟨ji3007, hji3007⟩ : ∃ j_ : Int, (wrap64 (x6_2 + 4)) = j_ := ⟨_, rfl⟩
 replace H : (if 0 ≤ (ji3007) then (if (ji3007) ≤ (wrap64 (x6_2 + 8)) then (if (wrap64 (x6_2 + 8)) ≤ (l1.length : Int) then ((spec_l03Num.f kj2002 ((l1.take ((wrap64 (x6_2 + 8)) : Int).toNat).drop ((ji3007) : Int).toNat)).bind fun t172 => (if x155010_2.length < 8796093022208 then (spec_l11Option.l0 kj2002 l1 (wrap64 (x6_2 + 8)) a0_0 a0_1 a0_2 a0_3 a0_4 a0_5 a0_6 a0_7 a0_8 a0_9 (x155010_2 ++ [(⟨t167, t172⟩ : S60)]) l0_11) else (none))) else (none)) else (none)) else (none)) = some (r1, r2, r3, r4, r5, r6, r7, r8, r9, r10, r11, r12) := by first | (rw [hji3007] at H; exact H) | (simp only [hji3007] at H ⊢; exact H)
 (try rw [hji3007] at c3004b0)
 (try rw [hji3007] at c3004b1)
 (try rw [hji3007] at c3004)
 (try rw [hji3007] at c3005b0)
 (try rw [hji3007] at c3005b1)
 (try rw [hji3007] at c3005)
 (try rw [hji3007] at Ny163)
 (try rw [hji3007] at A3006)
 have hji3007w : (IntKind.i64.wrap (x6_2 + 4)) = ji3007 := (i64_w _).trans hji3007
 by_cases c3008 : 0 ≤ (ji3007)
 {
 rw [if_pos c3008] at H
 have c3008b0 := eq_true c3008
 have c3008b1 : decide (0 ≤ (ji3007)) = true := decide_eq_true c3008
 clear c3008
 by_cases c3009 : (ji3007) ≤ (wrap64 (x6_2 + 8))
 {
 rw [if_pos c3009] at H
 have c3009b0 := eq_true c3009
 have c3009b1 : decide ((ji3007) ≤ (wrap64 (x6_2 + 8))) = true := decide_eq_true c3009
 (try (have c3009bw0 := c3009b0; simp only [← i64_w] at c3009bw0))
 (try (have c3009bw1 := c3009b1; simp only [← i64_w] at c3009bw1))
 (try (have c3009bw2 := c3009b2; simp only [← i64_w] at c3009bw2))
 by_cases c3010 : (wrap64 (x6_2 + 8)) ≤ (l1.length : Int)
 {
 rw [if_pos c3010] at H
 have c3010b0 := eq_true c3010
 have c3010b1 : decide ((wrap64 (x6_2 + 8)) ≤ (l1.length : Int)) = true := decide_eq_true c3010
 (try (have c3010bw0 := c3010b0; simp only [← i64_w] at c3010bw0))
 (try (have c3010bw1 := c3010b1; simp only [← i64_w] at c3010bw1))
 (try (have c3010bw2 := c3010b2; simp only [← i64_w] at c3010bw2))
 obtain ⟨y168, hy168⟩ : ∃ y_ : List Int, y_ = ((l1.take ((wrap64 (x6_2 + 8)) : Int).toNat).drop ((ji3007) : Int).toNat) := ⟨_, rfl⟩
 replace H : ((spec_l03Num.f kj2002 y168).bind fun t172 => (if x155010_2.length < 8796093022208 then (spec_l11Option.l0 kj2002 l1 (wrap64 (x6_2 + 8)) a0_0 a0_1 a0_2 a0_3 a0_4 a0_5 a0_6 a0_7 a0_8 a0_9 (x155010_2 ++ [(⟨t167, t172⟩ : S60)]) l0_11) else (none))) = some (r1, r2, r3, r4, r5, r6, r7, r8, r9, r10, r11, r12) := by first | (rw [hy168]; with_reducible exact H) | (have H2_ := (Option.bind_some _ _).symm.trans H; rw [hy168]; with_reducible exact H2_) | (have H2_ := (Option.bind_some _ _).symm.trans H; with_reducible exact H2_) | with_reducible exact H | (rw [hy168]; exact H) | exact H
 have Ny168 := Aside0.mk hy168
 clear hy168
 replace H := Option.bind_eq_some_iff.mp H
 obtain ⟨t172, A30110, H⟩ := H
 have A3011 := Aside0.mk A30110
 clear A30110
 by_cases c3012 : x155010_2.length < 8796093022208
 {
 rw [if_pos c3012] at H
 have LMc3012 := Aside0.mk c3012
 clear c3012
 obtain ⟨y173, hy173⟩ : ∃ y_ : List (S60), y_ = (x155010_2 ++ [(⟨t167, t172⟩ : S60)]) := ⟨_, rfl⟩
 replace H : (spec_l11Option.l0 kj2002 l1 (wrap64 (x6_2 + 8)) a0_0 a0_1 a0_2 a0_3 a0_4 a0_5 a0_6 a0_7 a0_8 a0_9 y173 l0_11) = some (r1, r2, r3, r4, r5, r6, r7, r8, r9, r10, r11, r12) := by first | (rw [hy173]; with_reducible exact H) | (have H2_ := (Option.bind_some _ _).symm.trans H; rw [hy173]; with_reducible exact H2_) | (have H2_ := (Option.bind_some _ _).symm.trans H; with_reducible exact H2_) | with_reducible exact H | (rw [hy173]; exact H) | exact H
 have Ny173 := Aside0.mk hy173
 clear hy173
 have H' := Aside0.mk H
 clear H
 try go_wp2
 have n0_ := Aside0.mk (Kd.R_drew HO_155010.out)
 have n1_ := Aside0.mk (blk_drew BK154.out)
 have n2_ := Aside0.mk (blk_drew BK155.out)
 have n3_ := Aside0.mk (Kept.drew HK.out)
 have n4_ := Aside0.mk (below_drew1 HB.out)
 clear HO_155010
 clear BK154
 clear BK155
 clear HK
 clear HB
 have HO_155010 := n0_
 have BK154 := n1_
 have BK155 := n2_
 have HK := n3_
 have HB := n4_
 clear n0_ n1_ n2_ n3_ n4_
 have q4002 : ((ji3007) : Int) ≤ ((l1.length : Int) : Int) := of_decide_eq_true (by first | (with_reducible assumption) | assumption)
 obtain ⟨i04002, hi04002, _, hsz4002, _⟩ := info_parts info5
 have hroom4002 : l1.length ≤ c1 := HC1.out
 have hC4002 : Kd.C (Kd.int .u8) _ (some ad156) l1.length l1 := (Kd.C_kept_now HR1.out HK.out)
 have ql4002 : (x6_2 : Int) ≤ ((ji3007) : Int) := of_decide_eq_true (by first | (with_reducible assumption) | assumption)
 have q04002 : (0 : Int) ≤ (x6_2 : Int) := of_decide_eq_true (by first | (with_reducible assumption) | assumption)
 have hcut4002 := cut_mid (P := Try.prog) 22 5 .i64 .i64 Try.underlying22 hi04002 1 hsz4002 (some ad156) l1.length c1 x6_2 (ji3007) q04002 ql4002 q4002 hroom4002
 have hr4002 := Kd.C_mid (lo := (x6_2 : Int).toNat) (hi := ((ji3007) : Int).toNat) (c := c1) hC4002 (by omega) (by omega) hroom4002
 obtain ⟨A4002, hA4002⟩ : ∃ Aq_, Aq_ = (if c1 = (x6_2 : Int).toNat then (some ad156) else ((some ad156) : Option Addr).map (·.add ((x6_2 : Int).toNat * 1))) := ⟨_, rfl⟩
 obtain ⟨c4002, hc4002⟩ : ∃ cq_, cq_ = c1 - (x6_2 : Int).toNat := ⟨_, rfl⟩
 have hy4002 : y163.length = ((ji3007) : Int).toNat - (x6_2 : Int).toNat := (by rw [Ny163.out, List.length_drop, List.length_take] <;> omega)
 rw [show ((l1).take ((ji3007) : Int).toNat).drop (x6_2 : Int).toNat = y163 from Ny163.out.symm] at hr4002
 replace hr4002 : Kd.C (Kd.int .u8) _ A4002 y163.length y163 := (by rw [hA4002]; exact hr4002)
 rw [← hy4002, ← hA4002, ← hc4002] at hcut4002
 have HR166 := Aside0.mk hr4002
 have HC166 := Aside0.mk (show y163.length ≤ c4002 from by rw [hy4002, hc4002]; exact Nat.sub_le_sub_right (Nat.le_trans (by omega) hroom4002) _)
 clear hr4002 hC4002 hroom4002 hi04002 hsz4002 hc4002
 have KY4002 := Aside0.mk hy4002
 have KA4002 := Aside0.mk hA4002
 clear hy4002 hA4002
 have KL4002 := Aside0.mk (show ((ji3007) : Int).toNat ≤ l1.length from by omega)
 have KM4002 := Aside0.mk (show (x6_2 : Int).toNat ≤ ((ji3007) : Int).toNat from by omega)
 replace q4002 := eq_true q4002
 have q4003 : ((wrap64 (x6_2 + 8)) : Int) ≤ ((l1.length : Int) : Int) := of_decide_eq_true (by first | (with_reducible assumption) | assumption)
 obtain ⟨i04003, hi04003, _, hsz4003, _⟩ := info_parts info5
 have hroom4003 : l1.length ≤ c1 := HC1.out
 have hC4003 : Kd.C (Kd.int .u8) _ (some ad156) l1.length l1 := (Kd.C_kept_now HR1.out HK.out)
 have ql4003 : ((ji3007) : Int) ≤ ((wrap64 (x6_2 + 8)) : Int) := of_decide_eq_true (by first | (with_reducible assumption) | assumption)
 have q04003 : (0 : Int) ≤ ((ji3007) : Int) := of_decide_eq_true (by first | (with_reducible assumption) | assumption)
 have hcut4003 := cut_mid (P := Try.prog) 22 5 .i64 .i64 Try.underlying22 hi04003 1 hsz4003 (some ad156) l1.length c1 (ji3007) (wrap64 (x6_2 + 8)) q04003 ql4003 q4003 hroom4003
 have hr4003 := Kd.C_mid (lo := ((ji3007) : Int).toNat) (hi := ((wrap64 (x6_2 + 8)) : Int).toNat) (c := c1) hC4003 (by omega) (by omega) hroom4003
 obtain ⟨A4003, hA4003⟩ : ∃ Aq_, Aq_ = (if c1 = ((ji3007) : Int).toNat then (some ad156) else ((some ad156) : Option Addr).map (·.add (((ji3007) : Int).toNat * 1))) := ⟨_, rfl⟩
 obtain ⟨c4003, hc4003⟩ : ∃ cq_, cq_ = c1 - ((ji3007) : Int).toNat := ⟨_, rfl⟩
 have hy4003 : y168.length = ((wrap64 (x6_2 + 8)) : Int).toNat - ((ji3007) : Int).toNat := (by rw [Ny168.out, List.length_drop, List.length_take] <;> omega)
 rw [show ((l1).take ((wrap64 (x6_2 + 8)) : Int).toNat).drop ((ji3007) : Int).toNat = y168 from Ny168.out.symm] at hr4003
 replace hr4003 : Kd.C (Kd.int .u8) _ A4003 y168.length y168 := (by rw [hA4003]; exact hr4003)
 rw [← hy4003, ← hA4003, ← hc4003] at hcut4003
 have HR171 := Aside0.mk hr4003
 have HC171 := Aside0.mk (show y168.length ≤ c4003 from by rw [hy4003, hc4003]; exact Nat.sub_le_sub_right (Nat.le_trans (by omega) hroom4003) _)
 clear hr4003 hC4003 hroom4003 hi04003 hsz4003 hc4003
 have KY4003 := Aside0.mk hy4003
 have KA4003 := Aside0.mk hA4003
 clear hy4003 hA4003
 have KL4003 := Aside0.mk (show ((wrap64 (x6_2 + 8)) : Int).toNat ≤ l1.length from by omega)
 have KM4003 := Aside0.mk (show ((ji3007) : Int).toNat ≤ ((wrap64 (x6_2 + 8)) : Int).toNat from by omega)
 replace q4003 := eq_true q4003
 refine start_ (n := 20) (S := fun w' => w'.cell? ⟨gb154, 0, none⟩ = some (.int .i64 a0_0) ∧ w'.cell? ⟨gb154, 1, none⟩ = some (.int .i64 a0_1) ∧ w'.cell? ⟨gb154, 2, none⟩ = some (.int .i64 a0_2) ∧ w'.cell? ⟨gb154, 3, none⟩ = some (.int .i64 a0_3) ∧ w'.cell? ⟨gb154, 4, none⟩ = some (.int .i64 a0_4) ∧ w'.cell? ⟨gb154, 5, none⟩ = some (.int .i64 a0_5) ∧ w'.cell? ⟨gb154, 6, none⟩ = some (.int .i64 a0_6) ∧ w'.cell? ⟨gb154, 7, none⟩ = some (.bool a0_7) ∧ w'.cell? ⟨gb154, 8, none⟩ = some (.int .i64 a0_8) ∧ w'.cell? ⟨gb154, 9, none⟩ = some (.bool a0_9) ∧ w'.cell? ⟨gb154, 10, none⟩ = some (u155010) ∧ w'.cell? ⟨gb154, 11, none⟩ = some (.slice A0_11 l0_11.length c0_11)) (ds := [19]) #[false, false, false, false, false, false, false, false, false, false, false, false, false, false, false, false, false, false, false, false] (by kernel_rfl) rfl rfl ⟨(blk_cell BK154.out 0).trans rfl, (blk_cell BK154.out 1).trans rfl, (blk_cell BK154.out 2).trans rfl, (blk_cell BK154.out 3).trans rfl, (blk_cell BK154.out 4).trans rfl, (blk_cell BK154.out 5).trans rfl, (blk_cell BK154.out 6).trans rfl, (blk_cell BK154.out 7).trans rfl, (blk_cell BK154.out 8).trans rfl, (blk_cell BK154.out 9).trans rfl, (blk_cell BK154.out 10).trans rfl, (blk_cell BK154.out 11).trans rfl⟩ (fun hHeld => ?_); refine with_tabW spec_l11Option.tab24 spec_l11Option.bits24 (fun HT_ HW_ => ?_)
 generalize wc.drew = w4001 at HO_155010 BK154 BK155 HK HB HR166 HR171 hHeld ⊢
 refine pure_ (i := 0) (N := some 73) (v := ?_) (a' := ?_) #[true, false, false, false, false, false, false, false, false, false, false, false, false, false, false, false, false, false, false, false] rfl rfl (any_of HT_.out (by kernel_rfl)) (fun _ _ _ h => h) (Or.inl ⟨by rfl, ?_⟩) ?_ ?_
 rotate_left
 {
 intro w'
 go_simp
 with_reducible rfl
 }
 rotate_left
 {
 simp only [Act.put, List.setIfInBounds_toArray, List.set_cons_zero, List.set_cons_succ, i64_w, i32_w]
 rfl
 }
 refine pure_ (i := 2) (N := some 75) (v := ?_) (a' := ?_) #[true, false, true, false, false, false, false, false, false, false, false, false, false, false, false, false, false, false, false, false] rfl rfl (any_of HT_.out (by kernel_rfl)) (fun _ _ _ h => h) (Or.inl ⟨by rfl, ?_⟩) ?_ ?_
 rotate_left
 {
 intro w'
 go_simp
 with_reducible rfl
 }
 rotate_left
 {
 simp only [Act.put, List.setIfInBounds_toArray, List.set_cons_zero, List.set_cons_succ, i64_w, i32_w]
 rfl
 }
 refine pure_ (i := 3) (N := some 76) (v := ?_) (a' := ?_) #[true, false, true, true, false, false, false, false, false, false, false, false, false, false, false, false, false, false, false, false] rfl rfl (any_of HT_.out (by kernel_rfl)) (fun _ _ _ h => h) (Or.inl ⟨by rfl, ?_⟩) ?_ ?_
 rotate_left
 {
 intro w'
 go_simp
 with_reducible rfl
 }
 rotate_left
 {
 simp only [Act.put, List.setIfInBounds_toArray, List.set_cons_zero, List.set_cons_succ, i64_w, i32_w]
 rfl
 }
 refine pure_ (i := 4) (N := some 77) (v := ?_) (a' := ?_) #[true, false, true, true, true, false, false, false, false, false, false, false, false, false, false, false, false, false, false, false] rfl rfl (any_of HT_.out (by kernel_rfl)) (fun _ _ _ h => h) (Or.inl ⟨by rfl, ?_⟩) ?_ ?_
 rotate_left
 {
 intro w'
 go_simp
 with_reducible rfl
 }
 rotate_left
 {
 simp only [Act.put, List.setIfInBounds_toArray, List.set_cons_zero, List.set_cons_succ, i64_w, i32_w]
 rfl
 }
 refine pure_ (i := 5) (N := some 78) (v := ?_) (a' := ?_) #[true, false, true, true, true, true, false, false, false, false, false, false, false, false, false, false, false, false, false, false] rfl rfl (any_of HT_.out (by kernel_rfl)) (fun _ _ _ h => h) (Or.inl ⟨by rfl, ?_⟩) ?_ ?_
 rotate_left
 {
 intro w'
 go_simp
 with_reducible rfl
 }
 rotate_left
 {
 simp only [Act.put, List.setIfInBounds_toArray, List.set_cons_zero, List.set_cons_succ, i64_w, i32_w]
 rfl
 }
 refine pure_ (i := 6) (N := some 79) (v := ?_) (a' := ?_) #[true, false, true, true, true, true, true, false, false, false, false, false, false, false, false, false, false, false, false, false] rfl rfl (any_of HT_.out (by kernel_rfl)) (fun _ _ _ h => h) (Or.inl ⟨by rfl, ?_⟩) ?_ ?_
 rotate_left
 {
 intro w'
 go_simp
 with_reducible rfl
 }
 rotate_left
 {
 simp only [Act.put, List.setIfInBounds_toArray, List.set_cons_zero, List.set_cons_succ, i64_w, i32_w]
 rfl
 }
 refine pure_ (i := 8) (N := some 81) (v := ?_) (a' := ?_) #[true, false, true, true, true, true, true, false, true, false, false, false, false, false, false, false, false, false, false, false] rfl rfl (any_of HT_.out (by kernel_rfl)) (fun _ _ _ h => h) (Or.inl ⟨by rfl, ?_⟩) ?_ ?_
 rotate_left
 {
 intro w'
 go_simp
 with_reducible rfl
 }
 rotate_left
 {
 simp only [Act.put, List.setIfInBounds_toArray, List.set_cons_zero, List.set_cons_succ, i64_w, i32_w]
 rfl
 }
 refine pure_ (i := 9) (N := some 82) (v := ?_) (a' := ?_) #[true, false, true, true, true, true, true, false, true, true, false, false, false, false, false, false, false, false, false, false] rfl rfl (any_of HT_.out (by kernel_rfl)) (fun _ _ _ h => h) (Or.inl ⟨by rfl, ?_⟩) ?_ ?_
 rotate_left
 {
 intro w'
 go_simp
 with_reducible rfl
 }
 rotate_left
 {
 simp only [Act.put, List.setIfInBounds_toArray, List.set_cons_zero, List.set_cons_succ, i64_w, i32_w]
 rfl
 }
 refine pure_ (i := 10) (N := some 83) (v := ?_) (a' := ?_) #[true, false, true, true, true, true, true, false, true, true, true, false, false, false, false, false, false, false, false, false] rfl rfl (any_of HT_.out (by kernel_rfl)) (fun _ _ _ h => h) (Or.inl ⟨by rfl, ?_⟩) ?_ ?_
 rotate_left
 {
 intro w'
 go_simp
 with_reducible rfl
 }
 rotate_left
 {
 simp only [Act.put, List.setIfInBounds_toArray, List.set_cons_zero, List.set_cons_succ, i64_w, i32_w]
 rfl
 }
 refine pure_ (i := 11) (N := some 84) (v := ?_) (a' := ?_) #[true, false, true, true, true, true, true, false, true, true, true, true, false, false, false, false, false, false, false, false] rfl rfl (any_of HT_.out (by kernel_rfl)) (fun _ _ _ h => h) (Or.inl ⟨by rfl, ?_⟩) ?_ ?_
 rotate_left
 {
 intro w'
 go_simp
 with_reducible rfl
 }
 rotate_left
 {
 simp only [Act.put, List.setIfInBounds_toArray, List.set_cons_zero, List.set_cons_succ, i64_w, i32_w]
 rfl
 }
 refine pure_ (i := 12) (N := some 85) (v := ?_) (a' := ?_) #[true, false, true, true, true, true, true, false, true, true, true, true, true, false, false, false, false, false, false, false] rfl rfl (any_of HT_.out (by kernel_rfl)) (fun _ _ _ h => h) (Or.inl ⟨by rfl, ?_⟩) ?_ ?_
 rotate_left
 {
 intro w'
 go_simp
 with_reducible rfl
 }
 rotate_left
 {
 simp only [Act.put, List.setIfInBounds_toArray, List.set_cons_zero, List.set_cons_succ, i64_w, i32_w]
 rfl
 }
 refine pure_ (i := 13) (N := some 86) (v := ?_) (a' := ?_) #[true, false, true, true, true, true, true, false, true, true, true, true, true, true, false, false, false, false, false, false] rfl rfl (any_of HT_.out (by kernel_rfl)) (fun _ _ _ h => h) (Or.inl ⟨by rfl, ?_⟩) ?_ ?_
 rotate_left
 {
 intro w'
 go_simp
 with_reducible rfl
 }
 rotate_left
 {
 simp only [Act.put, List.setIfInBounds_toArray, List.set_cons_zero, List.set_cons_succ, i64_w, i32_w]
 rfl
 }
 refine take_ (i := 1) (N := some 74) (v := ?_) (a' := ?_) #[true, true, true, true, true, true, true, false, true, true, true, true, true, true, false, false, false, false, false, false] rfl rfl (take_ofW HT_.out HW_.out (by kernel_rfl)) (fun _ _ _ h => h) (Or.inl ⟨by rfl, ?_⟩) hHeld ?_ ?_
 rotate_left
 {
 rintro w' ⟨s0, s1, s2, s3, s4, s5, s6, s7, s8, s9, s10, s11⟩
 go_simp
 with_reducible rfl
 }
 rotate_left
 {
 simp only [Act.put, List.setIfInBounds_toArray, List.set_cons_zero, List.set_cons_succ, i64_w, i32_w]
 rfl
 }
 refine one_ (i := 7) (N := some 80) #[true, true, true, true, true, true, true, true, true, true, true, true, true, true, false, false, false, false, false, false] rfl rfl (one_of HT_.out (by kernel_rfl)) (by decide) (fun K hK => ?_)
 refine goes_ Try.func25 (by kernel_rfl) rfl #[.slice A4002 y163.length c4002] (by rfl) rfl rfl wT ?_
 with_reducible refine (spec_l03Num.calls kj2002 _ _ y163 t167 _ ?side1 ?side2 A3006.out).mono ?_
 (case side1 => repeat (first | exact (by repeat (first | (with_reducible exact HR166.out) | (with_reducible refine Kd.C_alloc ?_ _) | (with_reducible refine Kd.C_drewN ?_ _) | (with_reducible refine Kd.C_drew ?_) | exact HR166.out)) | (with_reducible refine Kd.C_alloc ?_ _) | (with_reducible refine Kd.C_drewN ?_ _) | (with_reducible refine Kd.C_drew ?_)))
 (case side2 => exact HC166.out)
 rintro e w' ⟨rfl, ⟨nd, rfl⟩⟩
 refine ⟨_, rfl, ?_⟩
 refine hK.out _ _ ⟨(blk_cell BK154.out 0).trans rfl, (blk_cell BK154.out 1).trans rfl, (blk_cell BK154.out 2).trans rfl, (blk_cell BK154.out 3).trans rfl, (blk_cell BK154.out 4).trans rfl, (blk_cell BK154.out 5).trans rfl, (blk_cell BK154.out 6).trans rfl, (blk_cell BK154.out 7).trans rfl, (blk_cell BK154.out 8).trans rfl, (blk_cell BK154.out 9).trans rfl, (blk_cell BK154.out 10).trans rfl, (blk_cell BK154.out 11).trans rfl⟩ (fun hHeld => ?_)
 clear hK K
 refine norm_ (a' := ?_) ?_ ?_
 rotate_left
 {
 show Act.put _ (some 80) _ = _
 simp only [Act.put, List.setIfInBounds_toArray, List.set_cons_zero, List.set_cons_succ, i64_w, i32_w]
 rfl
 }
 refine one_ (i := 14) (N := some 87) #[true, true, true, true, true, true, true, true, true, true, true, true, true, true, true, false, false, false, false, false] rfl rfl (one_of HT_.out (by kernel_rfl)) (by decide) (fun K hK => ?_)
 refine goes_ Try.func25 (by kernel_rfl) rfl #[.slice A4003 y168.length c4003] (by rfl) rfl rfl wT ?_
 with_reducible refine (spec_l03Num.calls kj2002 _ _ y168 t172 _ ?side1 ?side2 A3011.out).mono ?_
 (case side1 => repeat (first | exact (by repeat (first | (with_reducible exact HR171.out) | (with_reducible refine Kd.C_alloc ?_ _) | (with_reducible refine Kd.C_drewN ?_ _) | (with_reducible refine Kd.C_drew ?_) | exact HR171.out)) | (with_reducible refine Kd.C_alloc ?_ _) | (with_reducible refine Kd.C_drewN ?_ _) | (with_reducible refine Kd.C_drew ?_)))
 (case side2 => exact HC171.out)
 rintro e w' ⟨rfl, ⟨nd, rfl⟩⟩
 refine ⟨_, rfl, ?_⟩
 refine hK.out _ _ ⟨(blk_cell BK154.out 0).trans rfl, (blk_cell BK154.out 1).trans rfl, (blk_cell BK154.out 2).trans rfl, (blk_cell BK154.out 3).trans rfl, (blk_cell BK154.out 4).trans rfl, (blk_cell BK154.out 5).trans rfl, (blk_cell BK154.out 6).trans rfl, (blk_cell BK154.out 7).trans rfl, (blk_cell BK154.out 8).trans rfl, (blk_cell BK154.out 9).trans rfl, (blk_cell BK154.out 10).trans rfl, (blk_cell BK154.out 11).trans rfl⟩ (fun hHeld => ?_)
 clear hK K
 refine norm_ (a' := ?_) ?_ ?_
 rotate_left
 {
 show Act.put _ (some 87) _ = _
 simp only [Act.put, List.setIfInBounds_toArray, List.set_cons_zero, List.set_cons_succ, i64_w, i32_w]
 rfl
 }
 refine pure_ (i := 15) (N := some 88) (v := ?_) (a' := ?_) #[true, true, true, true, true, true, true, true, true, true, true, true, true, true, true, true, false, false, false, false] rfl rfl (any_of HT_.out (by kernel_rfl)) (fun _ _ _ h => h) (Or.inl ⟨by rfl, ?_⟩) ?_ ?_
 rotate_left
 {
 intro w'
 go_simp
 with_reducible rfl
 }
 rotate_left
 {
 simp only [Act.put, List.setIfInBounds_toArray, List.set_cons_zero, List.set_cons_succ, i64_w, i32_w]
 rfl
 }
 refine one_ (i := 16) (N := some 89) #[true, true, true, true, true, true, true, true, true, true, true, true, true, true, true, true, true, false, false, false] rfl rfl (one_of HT_.out (by kernel_rfl)) (by decide) (fun K hK => ?_)
 refine value_ (w1 := ?_) (v := ?_) (by rfl) rfl ?_ ?_
 rotate_left 2
 {
 go_simp
 constructor
 {
 rfl
 }
 {
 rfl
 }
 }
 refine hK.out _ _ ⟨(blk_cell (blk_alloc BK154.out _) 0).trans rfl, (blk_cell (blk_alloc BK154.out _) 1).trans rfl, (blk_cell (blk_alloc BK154.out _) 2).trans rfl, (blk_cell (blk_alloc BK154.out _) 3).trans rfl, (blk_cell (blk_alloc BK154.out _) 4).trans rfl, (blk_cell (blk_alloc BK154.out _) 5).trans rfl, (blk_cell (blk_alloc BK154.out _) 6).trans rfl, (blk_cell (blk_alloc BK154.out _) 7).trans rfl, (blk_cell (blk_alloc BK154.out _) 8).trans rfl, (blk_cell (blk_alloc BK154.out _) 9).trans rfl, (blk_cell (blk_alloc BK154.out _) 10).trans rfl, (blk_cell (blk_alloc BK154.out _) 11).trans rfl⟩ (fun hHeld => ?_)
 clear hK K
 refine norm_ (a' := ?_) ?_ ?_
 rotate_left
 {
 show Act.put _ (some 89) _ = _
 simp only [Act.put, List.setIfInBounds_toArray, List.set_cons_zero, List.set_cons_succ, i64_w, i32_w]
 rfl
 }
 refine one_ (i := 17) (N := some 90) #[true, true, true, true, true, true, true, true, true, true, true, true, true, true, true, true, true, true, false, false] rfl rfl (one_of HT_.out (by kernel_rfl)) (by decide) (fun K hK => ?_)
 refine Kd.R_append_step k60 (w0 := w0) w0.heap.size (by rfl) (.tmp 74) (.tmp 89) 23 60 (.agg #[(.int .i64 0), (.int .i64 0)]) 16 rfl Try.underlying23 info60 rfl (by decide) (by omega) u155010 x155010_2 (⟨t167, t172⟩ : S60) [.int .i64 t167, .int .i64 t172] (fun k_ => (P0_10_ k_ ∨ w.heap.size ≤ k_)) (fun _ => False) rfl rfl ?aP (fun _ hk => hk.elim) ?aF ?aO ?aB ?aS ?aL ?_
 (case aP => exact k60_mkM _ _ _ (⟨t167, t172⟩ : S60))
 (case aB => exact wB)
 (case aF => exact (fun k_ hk => (.inr (Nat.le_trans (by first | exact HK.out.1 | exact (show Kept w _ (fun k_ => P0_10_ k_) from by repeat (first | (with_reducible first | exact HK.out | apply Kept.alloc | apply Kept.drewN | apply Kept.drew | refine Kept.setCell ?_ (.inr GW154.out) _ | refine Kept.setCell ?_ (.inr GW155.out) _) | exact HK.out)).1) hk))))
 (case aO => exact (Rh HO_155010))
 (case aS => exact (below_size wB))
 (case aL => have := LMc3012.out; omega)
 intro v174 w4004 ho hb hg hat
 rw [← Ny173.out] at ho
 have n0_ := Aside0.mk (blk_grown (Bh BK154) hg (Kd.R_ne HO_155010.out BK154.out (by decide)))
 have n1_ := Aside0.mk (blk_grown (Bh BK155) hg (Kd.R_ne HO_155010.out BK155.out (by decide)))
 have n2_ := Aside0.mk (hb)
 have n3_ := Aside0.mk (Kept.of_grown (S := (fun k_ => P0_10_ k_)) hg (by repeat (first | (with_reducible first | exact HK.out | apply Kept.alloc | apply Kept.drewN | apply Kept.drew | refine Kept.setCell ?_ (.inr GW154.out) _ | refine Kept.setCell ?_ (.inr GW155.out) _) | exact HK.out)) (fun k_ e_ => (HO_155010.out.1 k_ e_)))
 have n4_ := Aside0.mk ((show Kd.C (Kd.int .u8) w4004 A4002 y163.length y163 from by rw [Ny163.out, KA4002.out]; exact Kd.C_mid (lo := (x6_2 : Int).toNat) (hi := ((ji3007) : Int).toNat) (c := c1) (Kd.C_kept_now HR1.out (show Kept w w4004 (fun k_ => P0_10_ k_) from (Kept.of_grown (S := (fun k_ => P0_10_ k_)) hg (by repeat (first | (with_reducible first | exact HK.out | apply Kept.alloc | apply Kept.drewN | apply Kept.drew | refine Kept.setCell ?_ (.inr GW154.out) _ | refine Kept.setCell ?_ (.inr GW155.out) _) | exact HK.out)) (fun k_ e_ => (HO_155010.out.1 k_ e_))))) KM4002.out KL4002.out HC1.out))
 have n5_ := Aside0.mk ((show Kd.C (Kd.int .u8) w4004 A4003 y168.length y168 from by rw [Ny168.out, KA4003.out]; exact Kd.C_mid (lo := ((ji3007) : Int).toNat) (hi := ((wrap64 (x6_2 + 8)) : Int).toNat) (c := c1) (Kd.C_kept_now HR1.out (show Kept w w4004 (fun k_ => P0_10_ k_) from (Kept.of_grown (S := (fun k_ => P0_10_ k_)) hg (by repeat (first | (with_reducible first | exact HK.out | apply Kept.alloc | apply Kept.drewN | apply Kept.drew | refine Kept.setCell ?_ (.inr GW154.out) _ | refine Kept.setCell ?_ (.inr GW155.out) _) | exact HK.out)) (fun k_ e_ => (HO_155010.out.1 k_ e_))))) KM4003.out KL4003.out HC1.out))
 have n6_ := Aside0.mk (ho)
 clear BK154
 clear BK155
 clear HB
 clear HK
 clear HR166
 clear HR171
 clear HO_155010
 have BK154 := n0_
 have BK155 := n1_
 have HB := n2_
 have HK := n3_
 have HR166 := n4_
 have HR171 := n5_
 have HO175 := n6_
 clear n0_ n1_ n2_ n3_ n4_ n5_ n6_
 clear ho hb hg hat
 obtain ⟨Ao4005, co4005, eo4005⟩ := Kd.R_slice HO175.out
 (first | subst eo4005 | (injection eo4005 with f1_ f2_ f3_; have f4_ := f1_.symm; have f5_ := f3_.symm; clear f1_ f2_ f3_; subst f4_; subst f5_))
 refine hK.out _ _ ⟨(blk_cell BK154.out 0).trans rfl, (blk_cell BK154.out 1).trans rfl, (blk_cell BK154.out 2).trans rfl, (blk_cell BK154.out 3).trans rfl, (blk_cell BK154.out 4).trans rfl, (blk_cell BK154.out 5).trans rfl, (blk_cell BK154.out 6).trans rfl, (blk_cell BK154.out 7).trans rfl, (blk_cell BK154.out 8).trans rfl, (blk_cell BK154.out 9).trans rfl, (blk_cell BK154.out 10).trans rfl, (blk_cell BK154.out 11).trans rfl⟩ (fun hHeld => ?_)
 clear hK K
 refine norm_ (a' := ?_) ?_ ?_
 rotate_left
 {
 show Act.put _ (some 90) _ = _
 simp only [Act.put, List.setIfInBounds_toArray, List.set_cons_zero, List.set_cons_succ, i64_w, i32_w]
 rfl
 }
 refine pure_ (i := 18) (N := some 91) (v := ?_) (a' := ?_) #[true, true, true, true, true, true, true, true, true, true, true, true, true, true, true, true, true, true, true, false] rfl rfl (any_of HT_.out (by kernel_rfl)) (fun _ _ _ h => h) (Or.inl ⟨by rfl, ?_⟩) ?_ ?_
 rotate_left
 {
 intro w'
 go_simp
 with_reducible rfl
 }
 rotate_left
 {
 simp only [Act.put, List.setIfInBounds_toArray, List.set_cons_zero, List.set_cons_succ, i64_w, i32_w]
 rfl
 }
 refine last_ (i := 19) (N := none) #[true, true, true, true, true, true, true, true, true, true, true, true, true, true, true, true, true, true, true, true] rfl rfl (one_of HT_.out (by kernel_rfl)) (by decide) (fun K hK => ?_)
 have hs4006 : w4004.cell? ⟨gb154, 10, none⟩ = some (u155010) := (blk_cell BK154.out 10).trans rfl
 have hfs4006 := blk_frozen BK154.out 10
 have hns4006_1 := NB155_154.out
 have hms4006_1 := NB154_155.out
 refine skip_ (w1 := ?_) (by rfl) rfl ?_ ?_
 rotate_left
 {
 go_simp
 rfl
 }
 refine hK.out _ _ ?_
 clear hK K
 refine done_ (done_of HT_.out (by kernel_rfl)) ?_
 try go_wp2
 go_roundg kj2002
 case measure => have := HJ14.out; have := HK2.out; have := HJ2002.out; omega
 case rel => exact ⟨(wrap64 (x6_2 + 8)), (y173), (.slice Ao4005 y173.length co4005), (by first | rfl | (simp; done) | (simp [*]; done)), H', ⟨by have := HJ14.out; have := HK2.out; have := HJ2002.out; omega⟩, ⟨by (with_reducible repeat (first | apply Kd.R_alloc | apply Kd.R_drewN | apply Kd.R_drew)); exact Kd.R_mono (Kd.R_far (p := ⟨gb154, 10, none⟩) (Kd.R_types HO175.out BK154.out (by decide)) (fun _ hk => hk.2) (.slice Ao4005 y173.length co4005)) (fun _ hk => hk.1)⟩, ⟨by (with_reducible repeat (first | refine blk_drewN ?_ _ | refine blk_drew ?_ | refine blk_alloc ?_ _)); refine blk_put (cs := #[.int .i64 a0_0, .int .i64 a0_1, .int .i64 a0_2, .int .i64 a0_3, .int .i64 a0_4, .int .i64 a0_5, .int .i64 a0_6, .bool a0_7, .int .i64 a0_8, .bool a0_9, u155010, .slice A0_11 l0_11.length c0_11]) ?_ 10 _ rfl; (with_reducible repeat (first | refine blk_drewN ?_ _ | refine blk_drew ?_ | refine blk_alloc ?_ _)); exact BK154.out⟩, ⟨by (with_reducible repeat (first | refine blk_drewN ?_ _ | refine blk_drew ?_ | refine blk_alloc ?_ _)); refine blk_far ?_ NB155_154.out _; (with_reducible repeat (first | refine blk_drewN ?_ _ | refine blk_drew ?_ | refine blk_alloc ?_ _)); exact BK155.out⟩, ⟨by repeat (first | (with_reducible first | exact HK.out | apply Kept.alloc | apply Kept.drewN | apply Kept.drew | refine Kept.setCell ?_ (.inr GW154.out) _ | refine Kept.setCell ?_ (.inr GW155.out) _) | exact HK.out)⟩, ⟨wB⟩⟩
 }
 {
 rw [if_neg c3012] at H
 exact absurd H (by simp)
 }
 }
 {
 rw [if_neg c3010] at H
 exact absurd H (by simp)
 }
 }
 {
 rw [if_neg c3009] at H
 exact absurd H (by simp)
 }
 }
 {
 rw [if_neg c3008] at H
 exact absurd H (by simp)
 }
 }
 {
 rw [if_neg c3005] at H
 exact absurd H (by simp)
 }
 }
 {
 rw [if_neg c3004] at H
 exact absurd H (by simp)
 }
 }
 {
 rw [if_neg c3003] at H
 exact absurd H (by simp)
 }
 }
 {
 replace c3002 := Bool.eq_false_iff.mpr c3002
 subst c3002
 have H1 : (some (a0_0, a0_1, a0_2, a0_3, a0_4, a0_5, a0_6, a0_7, a0_8, a0_9, x155010_2, true)) = some (r1, r2, r3, r4, r5, r6, r7, r8, r9, r10, r11, r12) := by rw [if_neg (show ¬ (false = true) by decide)] at H; exact H
 clear H
 have H := H1
 clear H1
 simp only [Option.some.injEq, Prod.mk.injEq] at H
 obtain ⟨rfl, rfl, rfl, rfl, rfl, rfl, rfl, rfl, rfl, rfl, rfl, rfl⟩ := H
 have hnb4001 := NB154_155.out
 have hnc4001 := NB155_154.out
 obtain ⟨⟨hcz4002_0, hcz4002_1, hcz4002_2, hcz4002_3, hcz4002_4, hcz4002_5, hcz4002_6, hcz4002_7, hcz4002_8, hcz4002_9, hcz4002_10, hcz4002_11⟩, hfz4002_0, hfz4002_1, hfz4002_2, hfz4002_3, hfz4002_4, hfz4002_5, hfz4002_6, hfz4002_7, hfz4002_8, hfz4002_9, hfz4002_10, hfz4002_11⟩ := cells12 BK154.out
 obtain ⟨⟨hcz4003_0, hcz4003_1, hcz4003_2, hcz4003_3, hcz4003_4, hcz4003_5, hcz4003_6, hcz4003_7, hcz4003_8, hcz4003_9, hcz4003_10, hcz4003_11⟩, hfz4003_0, hfz4003_1, hfz4003_2, hfz4003_3, hfz4003_4, hfz4003_5, hfz4003_6, hfz4003_7, hfz4003_8, hfz4003_9, hfz4003_10, hfz4003_11⟩ := cells12 BK155.out
 obtain ⟨Ao4004, co4004, eo4004⟩ := Kd.R_slice HO_155010.out
 subst eo4004
 go_wp2_with (first | ((with_reducible refine gate_store (t := 25) (p := 4) rfl ?_); (try (rw [drewN_self wc]; generalize hq_ : World.drewN wc _ = wc; have n0_ := Aside0.mk (Kd.R_at hq_ HO_155010.out); have n1_ := Aside0.mk (blk_at hq_ BK154.out); have n2_ := Aside0.mk (blk_at hq_ BK155.out); have n3_ := Aside0.mk (kept_at hq_ HK.out); have n4_ := Aside0.mk (below_at hq_ HB.out); clear hq_ HO_155010 BK154 BK155 HK HB; have HO_155010 := n0_; have BK154 := n1_; have BK155 := n2_; have HK := n3_; have HB := n4_; clear n0_ n1_ n2_ n3_ n4_; (try (obtain ⟨⟨hcyBK154_0, hcyBK154_1, hcyBK154_2, hcyBK154_3, hcyBK154_4, hcyBK154_5, hcyBK154_6, hcyBK154_7, hcyBK154_8, hcyBK154_9, hcyBK154_10, hcyBK154_11⟩, hfyBK154_0, hfyBK154_1, hfyBK154_2, hfyBK154_3, hfyBK154_4, hfyBK154_5, hfyBK154_6, hfyBK154_7, hfyBK154_8, hfyBK154_9, hfyBK154_10, hfyBK154_11⟩ := cells12 BK154.out)); (try (obtain ⟨⟨hcyBK155_0, hcyBK155_1, hcyBK155_2, hcyBK155_3, hcyBK155_4, hcyBK155_5, hcyBK155_6, hcyBK155_7, hcyBK155_8, hcyBK155_9, hcyBK155_10, hcyBK155_11⟩, hfyBK155_0, hfyBK155_1, hfyBK155_2, hfyBK155_3, hfyBK155_4, hfyBK155_5, hfyBK155_6, hfyBK155_7, hfyBK155_8, hfyBK155_9, hfyBK155_10, hfyBK155_11⟩ := cells12 BK155.out)))); refine store_event (t := 25) (p := 4) (v := ?_) (w1 := (put12 wc gb155 (.int .i64 a0_0) (.int .i64 a0_1) (.int .i64 a0_2) (.int .i64 a0_3) (.int .i64 a0_4) (.int .i64 a0_5) (.int .i64 a0_6) (.bool a0_7) (.int .i64 a0_8) (.bool a0_9) (.slice Ao4004 x155010_2.length co4004) (.slice A0_11 l0_11.length c0_11))) ?hg ?ho ?hn ?hr ?_; (case ho => rfl); (case hg => rfl); (case hn => rfl); (case hr => first | (go_simp; done) | (go_simp; rfl)); intro w4005 hw; have n0_ : Aside0 (Kd.R k60 60 w4005 w0.heap.size (fun k_ => (P0_10_ k_ ∨ w.heap.size ≤ k_)) (.slice Ao4004 x155010_2.length co4004) x155010_2) := ⟨(by rw [hw]; exact (by (with_reducible repeat (first | apply Kd.R_alloc | apply Kd.R_drewN | apply Kd.R_drew)); exact Kd.R_mono (Kd.R_step (Kd.R_types HO_155010.out BK155.out (by decide)) (fun _ hk _ => far12 hk.2)) (fun _ hk => hk.1)))⟩; have n1_ : Aside0 (w4005.heap[gb154]? = some (.cells #[.int .i64 a0_0, .int .i64 a0_1, .int .i64 a0_2, .int .i64 a0_3, .int .i64 a0_4, .int .i64 a0_5, .int .i64 a0_6, .bool a0_7, .int .i64 a0_8, .bool a0_9, .slice Ao4004 x155010_2.length co4004, .slice A0_11 l0_11.length c0_11] 25 (0, 0))) := ⟨(by rw [hw]; exact (by refine (far12 NB154_155.out).trans ?_; (with_reducible repeat (first | refine blk_drewN ?_ _ | refine blk_drew ?_ | refine blk_alloc ?_ _)); exact BK154.out))⟩; have n2_ : Aside0 (w4005.heap[gb155]? = some (.cells #[.int .i64 a0_0, .int .i64 a0_1, .int .i64 a0_2, .int .i64 a0_3, .int .i64 a0_4, .int .i64 a0_5, .int .i64 a0_6, .bool a0_7, .int .i64 a0_8, .bool a0_9, .slice Ao4004 x155010_2.length co4004, .slice A0_11 l0_11.length c0_11] 25 (0, 0))) := ⟨(by rw [hw]; exact (by apply set12; (with_reducible repeat (first | refine blk_drewN ?_ _ | refine blk_drew ?_ | refine blk_alloc ?_ _)); exact BK155.out))⟩; have n3_ : Aside0 (Kept w w4005 (fun k_ => P0_10_ k_)) := ⟨(by rw [hw]; exact (by repeat (first | (with_reducible first | exact HK.out | apply Kept.alloc | apply Kept.drewN | apply Kept.drew | refine Kept.setCell ?_ (.inr GW154.out) _ | refine Kept.setCell ?_ (.inr GW155.out) _) | exact HK.out)))⟩; have n4_ : Aside0 (Below w0.heap.size w0 w4005) := ⟨(by rw [hw]; exact wB)⟩; clear hw; clear HO_155010; clear BK154; clear BK155; clear HK; clear HB; have HO_155010 := n0_; have BK154 := n1_; have BK155 := n2_; have HK := n3_; have HB := n4_; clear n0_ n1_ n2_ n3_ n4_))
 refine bodyPost_ret (results_ct rfl _ _ gb155 25 #[.int .i64 a0_0, .int .i64 a0_1, .int .i64 a0_2, .int .i64 a0_3, .int .i64 a0_4, .int .i64 a0_5, .int .i64 a0_6, .bool a0_7, .int .i64 a0_8, .bool a0_9, .slice Ao4004 x155010_2.length co4004, .slice A0_11 l0_11.length c0_11] (0, 0) _ rfl (Bh BK155) Try.underlying25 rfl (by kernel_rfl)) rfl ?_
 exact ⟨_, by first | rfl | (simp [errW_none, errW_some] <;> rfl) | (simp [*, errW_none, errW_some] <;> rfl), by (with_reducible repeat (first | apply Kd.R_alloc | apply Kd.R_drewN | apply Kd.R_drew)); exact HO_155010.out, wB, by repeat (first | (with_reducible first | exact HK.out | apply Kept.alloc | apply Kept.drewN | apply Kept.drew | refine Kept.setCell ?_ (.inr GW154.out) _ | refine Kept.setCell ?_ (.inr GW155.out) _) | exact HK.out)⟩
 }
 }
 )
 }
 )
 }
 }
 )
 }
 {
 go_wp2_with (first | ((with_reducible refine gate_dst (N := 2) rfl ?_); (try (refine gate_guard (by rfl) ?_; dsimp only)); refine box_event ?hg (N := 2) ?hd (cs := #[.int .i64 a0_0, .int .i64 a0_1, .int .i64 a0_2, .int .i64 a0_3, .int .i64 a0_4, .int .i64 a0_5, .int .i64 a0_6, .bool a0_7, .int .i64 a0_8, .bool a0_9, .slice Ao1001 l0_10.length co1001, .slice A0_11 l0_11.length c0_11]) (t := 25) ?hr ?_; (case hd => rfl); (case hg => rfl); (case hr => first | (go_simp; done) | (go_simp; rfl)); intro gb154 hg w1002 hbox hb; have n0_ := Aside0.mk (Kd.R_below (Rh HO0_10) hb); have n1_ := Aside0.mk (Kept.below (S := (fun k_ => P0_10_ k_)) (by repeat (first | (with_reducible first | exact HK.out | apply Kept.alloc | apply Kept.drewN | apply Kept.drew) | exact HK.out)) hb); have n2_ := Aside0.mk (below_step wB hb); have n3_ := Aside0.mk (hbox); have n4_ := Aside0.mk ((by rw [hg]; exact (by first | exact HK.out.1 | exact (show Kept w _ (fun k_ => P0_10_ k_) from by repeat (first | (with_reducible first | exact HK.out | apply Kept.alloc | apply Kept.drewN | apply Kept.drew) | exact HK.out)).1) : w.heap.size ≤ gb154)); have n5_ := Aside0.mk ((by rw [hg]; exact (below_size wB) : w0.heap.size ≤ gb154)); clear HO0_10; clear HK; clear HB; have HO0_10 := n0_; have HK := n1_; have HB := n2_; have BK154 := n3_; have GW154 := n4_; have GE154 := n5_; clear n0_ n1_ n2_ n3_ n4_ n5_; clear hb hbox hg) | ((with_reducible refine gate_dst (N := 4) rfl ?_); (try (refine gate_guard (by rfl) ?_; dsimp only)); refine box_event ?hg (N := 4) ?hd (cs := #[.int .i64 0, .int .i64 0, .int .i64 0, .int .i64 0, .int .i64 0, .int .i64 0, .int .i64 0, .bool false, .int .i64 0, .bool false, .slice none 0 0, .slice none 0 0]) (t := 25) ?hr ?_; (case hd => rfl); (case hg => rfl); (case hr => first | (go_simp; done) | (go_simp; rfl)); intro gb155 hg w1003 hbox hb; have n0_ := Aside0.mk (Kd.R_below (Rh HO0_10) hb); have n1_ := Aside0.mk (blk_below (Bh BK154) hb); have n2_ := Aside0.mk (Kept.below (S := (fun k_ => P0_10_ k_)) (by repeat (first | (with_reducible first | exact HK.out | apply Kept.alloc | apply Kept.drewN | apply Kept.drew | refine Kept.setCell ?_ (.inr GW154.out) _) | exact HK.out)) hb); have n3_ := Aside0.mk (below_step wB hb); have n4_ := Aside0.mk (hbox); have n5_ := Aside0.mk ((by rw [hg]; exact (by first | exact HK.out.1 | exact (show Kept w _ (fun k_ => P0_10_ k_) from by repeat (first | (with_reducible first | exact HK.out | apply Kept.alloc | apply Kept.drewN | apply Kept.drew | refine Kept.setCell ?_ (.inr GW154.out) _) | exact HK.out)).1) : w.heap.size ≤ gb155)); have n6_ := Aside0.mk ((by rw [hg]; exact (below_size wB) : w0.heap.size ≤ gb155)); have n7_ := Aside0.mk ((by rw [hg]; exact Nat.ne_of_lt (blk_lt (Bh BK154)) : gb154 ≠ gb155)); have n8_ := Aside0.mk ((by rw [hg]; exact Nat.ne_of_gt (blk_lt (Bh BK154)) : gb155 ≠ gb154)); clear HO0_10; clear BK154; clear HK; clear HB; have HO0_10 := n0_; have BK154 := n1_; have HK := n2_; have HB := n3_; have BK155 := n4_; have GW155 := n5_; have GE155 := n6_; have NB154_155 := n7_; have NB155_154 := n8_; clear n0_ n1_ n2_ n3_ n4_ n5_ n6_ n7_ n8_; clear hb hbox hg; have p156 : 0 ≤ (0 : Int) := (by omega); have q156 : 0 < (l1.length : Int) := of_decide_eq_true (by first | (with_reducible assumption) | assumption); obtain ⟨ad156, e156, hx156_0⟩ := Kd.at_int (Kd.C_kept_now HR1.out HK.out) 0 p156 q156; cases e156; have qi156 : (0 < l1.length) = True := eq_true (by omega); (try rw [show ((0 : Int)).toNat = 0 from rfl] at hx156_0); (try rw [Addr.add_zero'] at hx156_0); replace p156 := eq_true p156; replace q156 := eq_true q156; have hnb1004 := NB154_155.out; have hnc1004 := NB155_154.out; obtain ⟨⟨hcz1005_0, hcz1005_1, hcz1005_2, hcz1005_3, hcz1005_4, hcz1005_5, hcz1005_6, hcz1005_7, hcz1005_8, hcz1005_9, hcz1005_10, hcz1005_11⟩, hfz1005_0, hfz1005_1, hfz1005_2, hfz1005_3, hfz1005_4, hfz1005_5, hfz1005_6, hfz1005_7, hfz1005_8, hfz1005_9, hfz1005_10, hfz1005_11⟩ := cells12 BK154.out; obtain ⟨⟨hcz1006_0, hcz1006_1, hcz1006_2, hcz1006_3, hcz1006_4, hcz1006_5, hcz1006_6, hcz1006_7, hcz1006_8, hcz1006_9, hcz1006_10, hcz1006_11⟩, hfz1006_0, hfz1006_1, hfz1006_2, hfz1006_3, hfz1006_4, hfz1006_5, hfz1006_6, hfz1006_7, hfz1006_8, hfz1006_9, hfz1006_10, hfz1006_11⟩ := cells12 BK155.out) | ((with_reducible refine gate_store (t := 25) (p := 4) rfl ?_); (try (rw [drewN_self w1003]; generalize hq_ : World.drewN w1003 _ = w1003; have n0_ := Aside0.mk (Kd.R_at hq_ HO0_10.out); have n1_ := Aside0.mk (blk_at hq_ BK154.out); have n2_ := Aside0.mk (blk_at hq_ BK155.out); have n3_ := Aside0.mk (kept_at hq_ HK.out); have n4_ := Aside0.mk (below_at hq_ HB.out); clear hq_ HO0_10 BK154 BK155 HK HB; have HO0_10 := n0_; have BK154 := n1_; have BK155 := n2_; have HK := n3_; have HB := n4_; clear n0_ n1_ n2_ n3_ n4_; (try (obtain ⟨⟨hcyBK154_0, hcyBK154_1, hcyBK154_2, hcyBK154_3, hcyBK154_4, hcyBK154_5, hcyBK154_6, hcyBK154_7, hcyBK154_8, hcyBK154_9, hcyBK154_10, hcyBK154_11⟩, hfyBK154_0, hfyBK154_1, hfyBK154_2, hfyBK154_3, hfyBK154_4, hfyBK154_5, hfyBK154_6, hfyBK154_7, hfyBK154_8, hfyBK154_9, hfyBK154_10, hfyBK154_11⟩ := cells12 BK154.out)); (try (obtain ⟨⟨hcyBK155_0, hcyBK155_1, hcyBK155_2, hcyBK155_3, hcyBK155_4, hcyBK155_5, hcyBK155_6, hcyBK155_7, hcyBK155_8, hcyBK155_9, hcyBK155_10, hcyBK155_11⟩, hfyBK155_0, hfyBK155_1, hfyBK155_2, hfyBK155_3, hfyBK155_4, hfyBK155_5, hfyBK155_6, hfyBK155_7, hfyBK155_8, hfyBK155_9, hfyBK155_10, hfyBK155_11⟩ := cells12 BK155.out)))); refine store_event (t := 25) (p := 4) (v := ?_) (w1 := (put12 w1003 gb155 (.int .i64 a0_0) (.int .i64 a0_1) (.int .i64 a0_2) (.int .i64 a0_3) (.int .i64 a0_4) (.int .i64 a0_5) (.int .i64 a0_6) (.bool a0_7) (.int .i64 a0_8) (.bool a0_9) (.slice Ao1001 l0_10.length co1001) (.slice A0_11 l0_11.length c0_11))) ?hg ?ho ?hn ?hr ?_; (case ho => rfl); (case hg => rfl); (case hn => rfl); (case hr => first | (go_simp; done) | (go_simp; rfl)); intro w1007 hw; have n0_ : Aside0 (Kd.R k60 60 w1007 w0.heap.size (fun k_ => (P0_10_ k_ ∨ w.heap.size ≤ k_)) (.slice Ao1001 l0_10.length co1001) l0_10) := ⟨(by rw [hw]; exact (by (with_reducible repeat (first | apply Kd.R_alloc | apply Kd.R_drewN | apply Kd.R_drew)); exact Kd.R_mono (Kd.R_step (Kd.R_types HO0_10.out BK155.out (by decide)) (fun _ hk _ => far12 hk.2)) (fun _ hk => hk.1)))⟩; have n1_ : Aside0 (w1007.heap[gb154]? = some (.cells #[.int .i64 a0_0, .int .i64 a0_1, .int .i64 a0_2, .int .i64 a0_3, .int .i64 a0_4, .int .i64 a0_5, .int .i64 a0_6, .bool a0_7, .int .i64 a0_8, .bool a0_9, .slice Ao1001 l0_10.length co1001, .slice A0_11 l0_11.length c0_11] 25 (0, 0))) := ⟨(by rw [hw]; exact (by refine (far12 NB154_155.out).trans ?_; (with_reducible repeat (first | refine blk_drewN ?_ _ | refine blk_drew ?_ | refine blk_alloc ?_ _)); exact BK154.out))⟩; have n2_ : Aside0 (w1007.heap[gb155]? = some (.cells #[.int .i64 a0_0, .int .i64 a0_1, .int .i64 a0_2, .int .i64 a0_3, .int .i64 a0_4, .int .i64 a0_5, .int .i64 a0_6, .bool a0_7, .int .i64 a0_8, .bool a0_9, .slice Ao1001 l0_10.length co1001, .slice A0_11 l0_11.length c0_11] 25 (0, 0))) := ⟨(by rw [hw]; exact (by apply set12; (with_reducible repeat (first | refine blk_drewN ?_ _ | refine blk_drew ?_ | refine blk_alloc ?_ _)); exact BK155.out))⟩; have n3_ : Aside0 (Kept w w1007 (fun k_ => P0_10_ k_)) := ⟨(by rw [hw]; exact (by repeat (first | (with_reducible first | exact HK.out | apply Kept.alloc | apply Kept.drewN | apply Kept.drew | refine Kept.setCell ?_ (.inr GW154.out) _ | refine Kept.setCell ?_ (.inr GW155.out) _) | exact HK.out)))⟩; have n4_ : Aside0 (Below w0.heap.size w0 w1007) := ⟨(by rw [hw]; exact wB)⟩; clear hw; clear HO0_10; clear BK154; clear BK155; clear HK; clear HB; have HO0_10 := n0_; have BK154 := n1_; have BK155 := n2_; have HK := n3_; have HB := n4_; clear n0_ n1_ n2_ n3_ n4_))
 refine bodyPost_ret (results_ct rfl _ _ gb155 25 #[.int .i64 a0_0, .int .i64 a0_1, .int .i64 a0_2, .int .i64 a0_3, .int .i64 a0_4, .int .i64 a0_5, .int .i64 a0_6, .bool a0_7, .int .i64 a0_8, .bool a0_9, .slice Ao1001 l0_10.length co1001, .slice A0_11 l0_11.length c0_11] (0, 0) _ rfl (Bh BK155) Try.underlying25 rfl (by kernel_rfl)) rfl ?_
 exact ⟨_, by first | rfl | (simp [errW_none, errW_some] <;> rfl) | (simp [*, errW_none, errW_some] <;> rfl), by (with_reducible repeat (first | apply Kd.R_alloc | apply Kd.R_drewN | apply Kd.R_drew)); exact HO0_10.out, wB, by repeat (first | (with_reducible first | exact HK.out | apply Kept.alloc | apply Kept.drewN | apply Kept.drew | refine Kept.setCell ?_ (.inr GW154.out) _ | refine Kept.setCell ?_ (.inr GW155.out) _) | exact HK.out)⟩
 }

end Go.Proofs.Ytfllcmeakcbiaaa.PFnExactDecodeSegment
