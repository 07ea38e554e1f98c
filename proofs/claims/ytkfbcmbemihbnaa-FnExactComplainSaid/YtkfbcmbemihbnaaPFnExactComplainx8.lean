-- Written for this claim by a program of this session (wip/mkprint.py: the print, turned at a few places). Not trusted: Lean checks it.
import Derived.Test.YtkfbcmbemihbnaaPFnExactComplainx0
import Derived.Test.YtkfbcmbemihbnaaPFnExactComplainx7
namespace Go.Proofs.Ytkfbcmbemihbnaa.PFnExactComplain
open Go.RowKit Go.Proofs.YtkfbcmbemihbnaaW.PrintWords Go.Proofs.YtkfbcmbemihbnaaW.PrintLast Go.Proofs.YtkfbcmbemihbnaaW.PrintMore
attribute [local go_sem] max2_int min2_int max_two min_two max_three min_three max_four min_four   -- for this text's walks alone
set_option linter.unusedVariables false
set_option linter.unusedSimpArgs false

/-! ### impl_headIP: function 117 -/
mutual
def impl_headIP.j0 : Nat → List Int → Int → Int → Int → Bool → Bool → Int → Int → Int → Int → Int → List Int → List Int → Option (List Int)
  | 0, _, _, _, _, _, _, _, _, _, _, _, _, _ => none
  | k + 1, x4, x5, x297000, x297001, x297002, x297003, x297004, x297005, x297006, x297007, x297008, x297009, x297010 => if x297003 = true then (impl_headIP.j1 k x4 (Go.bits .or .i64 x5 8192) x297000 x297001 x297002 x297003 x297004 x297005 x297006 x297007 x297008 x297009 x297010) else (impl_headIP.j1 k x4 x5 x297000 x297001 x297002 x297003 x297004 x297005 x297006 x297007 x297008 x297009 x297010)
def impl_headIP.j1 : Nat → List Int → Int → Int → Int → Bool → Bool → Int → Int → Int → Int → Int → List Int → List Int → Option (List Int)
  | 0, _, _, _, _, _, _, _, _, _, _, _, _, _ => none
  | k + 1, x4, x5, x297000, x297001, x297002, x297003, x297004, x297005, x297006, x297007, x297008, x297009, x297010 => (impl_put.f k x4 2 x5).bind fun t306 => ((some (([(x297005) % 256, (x297006) % 256, 0, 0] : List Int) : List Int)).bind fun y309 => (if t306.length + y309.length < 140737488355328 then ((impl_put.f k (t306 ++ y309) 4 x297007).bind fun t315 => ((impl_put.f k t315 4 x297008).bind fun t318 => (if t318.length + x297009.length < 140737488355328 then ((some (t318 ++ x297009 : List Int)).bind fun y321 => ((impl_Checksum.f k y321).bind fun t324 => (if 10 < (y321.length : Int) then (if 11 < (y321.length : Int) then (some ((y321.set (10 : Int).toNat ((t324 / 256) % 256)).set (11 : Int).toNat ((t324) % 256))) else (none)) else (none)))) else (none)))) else (none)))
end
def impl_headIP.f (k : Nat) (a0_0 : Int) (a0_1 : Int) (a0_2 : Bool) (a0_3 : Bool) (a0_4 : Int) (a0_5 : Int) (a0_6 : Int) (a0_7 : Int) (a0_8 : Int) (l0_9 : List Int) (l0_10 : List Int) : Option (List Int) := (impl_put.f k (([(wrap64 (64 + (wrap64 (Int.tdiv (wrap64 (20 + (l0_9.length : Int))) 4)))) % 256, (a0_0) % 256] : List Int)) 2 (wrap64 ((wrap64 (20 + (l0_9.length : Int))) + (l0_10.length : Int)))).bind fun t300 => ((impl_put.f k t300 2 a0_1).bind fun t303 => (if a0_2 = true then (impl_headIP.j0 k t303 (Go.bits .or .i64 (wrap64 (Int.tdiv a0_4 8)) 16384) a0_0 a0_1 a0_2 a0_3 a0_4 a0_5 a0_6 a0_7 a0_8 l0_9 l0_10) else (impl_headIP.j0 k t303 (wrap64 (Int.tdiv a0_4 8)) a0_0 a0_1 a0_2 a0_3 a0_4 a0_5 a0_6 a0_7 a0_8 l0_9 l0_10)))
theorem impl_headIP.mono_l : ∀ k, (∀ y0 y1 y2 y3 y4 y5 y6 y7 y8 y9 y10 y11 y12, LeO (impl_headIP.j0 k y0 y1 y2 y3 y4 y5 y6 y7 y8 y9 y10 y11 y12) (impl_headIP.j0 (k + 1) y0 y1 y2 y3 y4 y5 y6 y7 y8 y9 y10 y11 y12)) ∧ (∀ y0 y1 y2 y3 y4 y5 y6 y7 y8 y9 y10 y11 y12, LeO (impl_headIP.j1 k y0 y1 y2 y3 y4 y5 y6 y7 y8 y9 y10 y11 y12) (impl_headIP.j1 (k + 1) y0 y1 y2 y3 y4 y5 y6 y7 y8 y9 y10 y11 y12))
  | 0 => ⟨fun _ _ _ _ _ _ _ _ _ _ _ _ _ r h => by simp [impl_headIP.j0] at h, fun _ _ _ _ _ _ _ _ _ _ _ _ _ r h => by simp [impl_headIP.j1] at h⟩
  | k + 1 => by
    obtain ⟨ih0, ih1⟩ := impl_headIP.mono_l k
    refine ⟨?_, ?_⟩
    · intro y0 y1 y2 y3 y4 y5 y6 y7 y8 y9 y10 y11 y12
      unfold impl_headIP.j0
      repeat' first
      | (with_reducible exact ih0 _ _ _ _ _ _ _ _ _ _ _ _ _)
      | (with_reducible exact ih1 _ _ _ _ _ _ _ _ _ _ _ _ _)
      | (with_reducible exact impl_Checksum.mono _ _)
      | (with_reducible exact impl_put.mono _ _ _ _)
      | (with_reducible exact LeO.refl _)
      | (with_reducible exact LeO.none _)
      | (with_reducible refine LeO.ite ?_ ?_)
      | (with_reducible refine LeO.bind ?_ (fun _ => ?_))
      | exact ih0 _ _ _ _ _ _ _ _ _ _ _ _ _
      | exact ih1 _ _ _ _ _ _ _ _ _ _ _ _ _
      | exact impl_Checksum.mono _ _
      | exact impl_put.mono _ _ _ _
      | exact LeO.none _
      | refine LeO.ite ?_ ?_
      | refine LeO.bind ?_ (fun _ => ?_)
    · intro y0 y1 y2 y3 y4 y5 y6 y7 y8 y9 y10 y11 y12
      unfold impl_headIP.j1
      repeat' first
      | (with_reducible exact ih0 _ _ _ _ _ _ _ _ _ _ _ _ _)
      | (with_reducible exact ih1 _ _ _ _ _ _ _ _ _ _ _ _ _)
      | (with_reducible exact impl_Checksum.mono _ _)
      | (with_reducible exact impl_put.mono _ _ _ _)
      | (with_reducible exact LeO.refl _)
      | (with_reducible exact LeO.none _)
      | (with_reducible refine LeO.ite ?_ ?_)
      | (with_reducible refine LeO.bind ?_ (fun _ => ?_))
      | exact ih0 _ _ _ _ _ _ _ _ _ _ _ _ _
      | exact ih1 _ _ _ _ _ _ _ _ _ _ _ _ _
      | exact impl_Checksum.mono _ _
      | exact impl_put.mono _ _ _ _
      | exact LeO.none _
      | refine LeO.ite ?_ ?_
      | refine LeO.bind ?_ (fun _ => ?_)
theorem impl_headIP.mono : ∀ a0 a1 a2 a3 a4 a5 a6 a7 a8 a9 a10 k, LeO (impl_headIP.f k a0 a1 a2 a3 a4 a5 a6 a7 a8 a9 a10) (impl_headIP.f (k + 1) a0 a1 a2 a3 a4 a5 a6 a7 a8 a9 a10) := by
 intro a0 a1 a2 a3 a4 a5 a6 a7 a8 a9 a10 k
 obtain ⟨ih0, ih1⟩ := impl_headIP.mono_l k
 unfold impl_headIP.f
 repeat' first
     | (with_reducible exact ih0 _ _ _ _ _ _ _ _ _ _ _ _ _)
     | (with_reducible exact ih1 _ _ _ _ _ _ _ _ _ _ _ _ _)
     | (with_reducible exact impl_Checksum.mono _ _)
     | (with_reducible exact impl_put.mono _ _ _ _)
     | (with_reducible exact LeO.refl _)
     | (with_reducible exact LeO.none _)
     | (with_reducible refine LeO.ite ?_ ?_)
     | (with_reducible refine LeO.bind ?_ (fun _ => ?_))
     | exact ih0 _ _ _ _ _ _ _ _ _ _ _ _ _
     | exact ih1 _ _ _ _ _ _ _ _ _ _ _ _ _
     | exact impl_Checksum.mono _ _
     | exact impl_put.mono _ _ _ _
     | exact LeO.none _
     | refine LeO.ite ?_ ?_
     | refine LeO.bind ?_ (fun _ => ?_)
def impl_headIP.T3 : Bool × List (List Nat × List Nat) := (true, [([], []), ([], []), ([], []), ([2], [2]), ([3], [3]), ([1, 4], [1, 4]), ([0, 5], [0, 5]), ([], []), ([7], [7]), ([6, 8, 6], [6, 8]), ([9, 9, 0, 1, 2, 3, 4, 5, 6, 7, 8, 9], [0, 9])])
def impl_headIP.B3 : List Nat := [0, 0, 0, 4, 12, 30, 63, 0, 128, 511, 1023]
theorem impl_headIP.tab3 : rtab .any (opsOf Try.f117 3) = impl_headIP.T3 := by kernel_rfl
theorem impl_headIP.bits3 : waitsOk impl_headIP.T3.2 impl_headIP.B3 = true := by kernel_rfl
def impl_headIP.T11 : Bool × List (List Nat × List Nat) := (true, [([], []), ([], []), ([1], [1]), ([0, 2], [0, 2]), ([], []), ([4], [4]), ([3, 5, 3], [3, 5]), ([], []), ([7], [7]), ([6, 8, 6], [6, 8]), ([9, 9, 0, 1, 2, 3, 4, 5, 6, 7, 8, 9], [0, 9])])
def impl_headIP.B11 : List Nat := [0, 0, 2, 7, 0, 16, 63, 0, 128, 511, 1023]
theorem impl_headIP.tab11 : rtab .any (opsOf Try.f117 11) = impl_headIP.T11 := by kernel_rfl
theorem impl_headIP.bits11 : waitsOk impl_headIP.T11.2 impl_headIP.B11 = true := by kernel_rfl
set_option maxHeartbeats 60000000 in
set_option maxRecDepth 100000 in
theorem impl_headIP.calls (k : Nat) (a0_0 : Int) (a0_1 : Int) (a0_2 : Bool) (a0_3 : Bool) (a0_4 : Int) (a0_5 : Int) (a0_6 : Int) (a0_7 : Int) (a0_8 : Int) (A0_9 : Option Addr) (c0_9 : Nat) (l0_9 : List Int) (A0_10 : Option Addr) (c0_10 : Nat) (l0_10 : List Int) (r : List Int) (w : World) (hr0_9 : Kd.C (Kd.int .u8) w A0_9 l0_9.length l0_9) (hc0_9 : l0_9.length ≤ c0_9) (hr0_10 : Kd.C (Kd.int .u8) w A0_10 l0_10.length l0_10) (hc0_10 : l0_10.length ≤ c0_10) (h : impl_headIP.f k a0_0 a0_1 a0_2 a0_3 a0_4 a0_5 a0_6 a0_7 a0_8 l0_9 l0_10 = some r) :
 Calls Try.prog 117 #[.agg #[.int .i64 a0_0, .int .i64 a0_1, .bool a0_2, .bool a0_3, .int .i64 a0_4, .int .i64 a0_5, .int .i64 a0_6, .int .i64 a0_7, .int .i64 a0_8, .slice A0_9 l0_9.length c0_9, .slice A0_10 l0_10.length c0_10]] w fun e w' => ∃ v0_ : Value, e = .returned (v0_) ∧ Kd.R (Kd.int .u8) 5 w' w.heap.size (fun _ => True) v0_ r ∧ Below w.heap.size w w' := by
 have hu51 := Try.underlying51
 have HR0_9 := Aside0.mk hr0_9
 have HC0_9 := Aside0.mk hc0_9
 clear hr0_9 hc0_9
 have HR0_10 := Aside0.mk hr0_10
 have HC0_10 := Aside0.mk hc0_10
 clear hr0_10 hc0_10
 have HB := Aside0.mk (Below.refl w.heap.size w)
 have H : ((impl_put.f k (([(wrap64 (64 + (wrap64 (Int.tdiv (wrap64 (20 + (l0_9.length : Int))) 4)))) % 256, (a0_0) % 256] : List Int)) 2 (wrap64 ((wrap64 (20 + (l0_9.length : Int))) + (l0_10.length : Int)))).bind fun t300 => ((impl_put.f k t300 2 a0_1).bind fun t303 => (if a0_2 = true then (impl_headIP.j0 k t303 (Go.bits .or .i64 (wrap64 (Int.tdiv a0_4 8)) 16384) a0_0 a0_1 a0_2 a0_3 a0_4 a0_5 a0_6 a0_7 a0_8 l0_9 l0_10) else (impl_headIP.j0 k t303 (wrap64 (Int.tdiv a0_4 8)) a0_0 a0_1 a0_2 a0_3 a0_4 a0_5 a0_6 a0_7 a0_8 l0_9 l0_10)))) = some r := h
 clear h
 obtain ⟨y297, hy297⟩ : ∃ y_ : List Int, y_ = (([(wrap64 (64 + (wrap64 (Int.tdiv (wrap64 (20 + (l0_9.length : Int))) 4)))) % 256, (a0_0) % 256] : List Int)) := ⟨_, rfl⟩
 replace H : ((impl_put.f k y297 2 (wrap64 ((wrap64 (20 + (l0_9.length : Int))) + (l0_10.length : Int)))).bind fun t300 => ((impl_put.f k t300 2 a0_1).bind fun t303 => (if a0_2 = true then (impl_headIP.j0 k t303 (Go.bits .or .i64 (wrap64 (Int.tdiv a0_4 8)) 16384) a0_0 a0_1 a0_2 a0_3 a0_4 a0_5 a0_6 a0_7 a0_8 l0_9 l0_10) else (impl_headIP.j0 k t303 (wrap64 (Int.tdiv a0_4 8)) a0_0 a0_1 a0_2 a0_3 a0_4 a0_5 a0_6 a0_7 a0_8 l0_9 l0_10)))) = some r := by first | (rw [hy297]; with_reducible exact H) | (have H2_ := (Option.bind_some _ _).symm.trans H; rw [hy297]; with_reducible exact H2_) | (have H2_ := (Option.bind_some _ _).symm.trans H; with_reducible exact H2_) | with_reducible exact H | (rw [hy297]; exact H) | exact H
 have Ny297 := Aside0.mk hy297
 clear hy297
 replace H := Option.bind_eq_some_iff.mp H
 obtain ⟨t300, A20, H⟩ := H
 replace H : ((impl_put.f k t300 2 a0_1).bind fun t303 => (if a0_2 = true then (impl_headIP.j0 k t303 (Go.bits .or .i64 (wrap64 (Int.tdiv a0_4 8)) 16384) a0_0 a0_1 a0_2 a0_3 a0_4 a0_5 a0_6 a0_7 a0_8 l0_9 l0_10) else (impl_headIP.j0 k t303 (wrap64 (Int.tdiv a0_4 8)) a0_0 a0_1 a0_2 a0_3 a0_4 a0_5 a0_6 a0_7 a0_8 l0_9 l0_10))) = some r := H
 have A2 := Aside0.mk A20
 clear A20
 replace H := Option.bind_eq_some_iff.mp H
 obtain ⟨t303, A30, H⟩ := H
 replace H : (if a0_2 = true then (impl_headIP.j0 k t303 (Go.bits .or .i64 (wrap64 (Int.tdiv a0_4 8)) 16384) a0_0 a0_1 a0_2 a0_3 a0_4 a0_5 a0_6 a0_7 a0_8 l0_9 l0_10) else (impl_headIP.j0 k t303 (wrap64 (Int.tdiv a0_4 8)) a0_0 a0_1 a0_2 a0_3 a0_4 a0_5 a0_6 a0_7 a0_8 l0_9 l0_10)) = some r := H
 have A3 := Aside0.mk A30
 clear A30
 have HC4 := Aside0.mk H
 clear H
 go_enter Try.func117, Try.ntmps117
 try go_wp2_with (first | ((with_reducible refine gate_dst (N := 1) rfl ?_); refine box_event ?hg (N := 1) ?hd (cs := #[.int .i64 a0_0, .int .i64 a0_1, .bool a0_2, .bool a0_3, .int .i64 a0_4, .int .i64 a0_5, .int .i64 a0_6, .int .i64 a0_7, .int .i64 a0_8, .slice A0_9 l0_9.length c0_9, .slice A0_10 l0_10.length c0_10]) (t := 51) ?hr ?_; (case hd => rfl); (case hg => rfl); (case hr => first | (go_simp; done) | (go_simp; rfl)); intro gb296 hg w1001 hbox hb; have n0_ := Aside0.mk (below_step wB hb); have n1_ := Aside0.mk (hbox); have n2_ := Aside0.mk ((by rw [hg]; exact (below_size wB) : w.heap.size ≤ gb296)); have n3_ := Aside0.mk ((by rw [hg]; exact (below_size wB) : w.heap.size ≤ gb296)); clear HB; have HB := n0_; have BK296 := n1_; have GW296 := n2_; have GE296 := n3_; clear n0_ n1_ n2_ n3_; clear hb hbox hg; obtain ⟨⟨hcz1002_0, hcz1002_1, hcz1002_2, hcz1002_3, hcz1002_4, hcz1002_5, hcz1002_6, hcz1002_7, hcz1002_8, hcz1002_9, hcz1002_10⟩, hfz1002_0, hfz1002_1, hfz1002_2, hfz1002_3, hfz1002_4, hfz1002_5, hfz1002_6, hfz1002_7, hfz1002_8, hfz1002_9, hfz1002_10⟩ := cells11 BK296.out) | ((with_reducible refine gate_dst (N := 18) rfl ?_); refine Kd.R_lit (Kd.int .u8) _ 5 ?hg (N := 18) ?hd (xs := ([(wrap64 (64 + (wrap64 (Int.tdiv (wrap64 (20 + (l0_9.length : Int))) 4)))) % 256, (a0_0) % 256] : List Int)) (inner := [.int .u8 ((wrap64 (64 + (wrap64 (Int.tdiv (wrap64 (20 + (l0_9.length : Int))) 4)))) % 256), .int .u8 ((a0_0) % 256)]) (ok := fun _ => True) (okp := fun _ => True) ?hr ?hp (fun _ hk => hk) trivial (Below.refl _ _) (Nat.le_refl _) (by simp) ?_; (case hd => rfl); (case hg => rfl); (case hr => first | (go_simp; done) | (go_simp; rfl)); (case hp => exact (Reps.one (show Kd.M (Kd.int .u8) _ _ _ ((wrap64 (64 + (wrap64 (Int.tdiv (wrap64 (20 + (l0_9.length : Int))) 4)))) % 256) [.int .u8 ((wrap64 (64 + (wrap64 (Int.tdiv (wrap64 (20 + (l0_9.length : Int))) 4)))) % 256)] from rfl) (Reps.one (show Kd.M (Kd.int .u8) _ _ _ ((a0_0) % 256) [.int .u8 ((a0_0) % 256)] from rfl) (Reps.none _ _)))); intro v298 w1003 ho1004 hb hg_ hnew_; clear hg_ hnew_; (first | rw [← Ny297.out] at ho1004 | (simp only [Int.reduceToNat] at ho1004; rw [← Ny297.out] at ho1004)); have n0_ := Aside0.mk (Kd.R_lower ho1004 (below_size wB)); have n1_ := Aside0.mk (blk_below (Bh BK296) hb); have n2_ := Aside0.mk (below_step wB hb); clear BK296; clear HB; have HO299 := n0_; have BK296 := n1_; have HB := n2_; clear n0_ n1_ n2_; clear hb ho1004))
 have n0_ := Aside0.mk (Kd.R_drew HO299.out)
 have n1_ := Aside0.mk (blk_drew BK296.out)
 have n2_ := Aside0.mk (below_drew1 HB.out)
 clear HO299
 clear BK296
 clear HB
 have HO299 := n0_
 have BK296 := n1_
 have HB := n2_
 clear n0_ n1_ n2_
 obtain ⟨Ao1006, co1006, eo1006⟩ := Kd.R_slice HO299.out
 (first | subst eo1006 | (injection eo1006 with f1_ f2_ f3_; have f4_ := f1_.symm; have f5_ := f3_.symm; clear f1_ f2_ f3_; subst f4_; subst f5_))
 refine start_ (n := 11) (S := fun w' => w'.cell? ⟨gb296, 0, none⟩ = some (.int .i64 a0_0) ∧ w'.cell? ⟨gb296, 1, none⟩ = some (.int .i64 a0_1) ∧ w'.cell? ⟨gb296, 2, none⟩ = some (.bool a0_2) ∧ w'.cell? ⟨gb296, 3, none⟩ = some (.bool a0_3) ∧ w'.cell? ⟨gb296, 4, none⟩ = some (.int .i64 a0_4) ∧ w'.cell? ⟨gb296, 5, none⟩ = some (.int .i64 a0_5) ∧ w'.cell? ⟨gb296, 6, none⟩ = some (.int .i64 a0_6) ∧ w'.cell? ⟨gb296, 7, none⟩ = some (.int .i64 a0_7) ∧ w'.cell? ⟨gb296, 8, none⟩ = some (.int .i64 a0_8) ∧ w'.cell? ⟨gb296, 9, none⟩ = some (.slice A0_9 l0_9.length c0_9) ∧ w'.cell? ⟨gb296, 10, none⟩ = some (.slice A0_10 l0_10.length c0_10)) (ds := []) #[false, false, false, false, false, false, false, false, false, false, false] (by kernel_rfl) rfl rfl ⟨(blk_cell BK296.out 0).trans rfl, (blk_cell BK296.out 1).trans rfl, (blk_cell BK296.out 2).trans rfl, (blk_cell BK296.out 3).trans rfl, (blk_cell BK296.out 4).trans rfl, (blk_cell BK296.out 5).trans rfl, (blk_cell BK296.out 6).trans rfl, (blk_cell BK296.out 7).trans rfl, (blk_cell BK296.out 8).trans rfl, (blk_cell BK296.out 9).trans rfl, (blk_cell BK296.out 10).trans rfl⟩ (fun hHeld => ?_); refine with_tabW impl_headIP.tab3 impl_headIP.bits3 (fun HT_ HW_ => ?_)
 generalize w1003.drew = w1005 at HO299 BK296 HB hHeld ⊢
 refine pure_ (i := 0) (N := some 19) (v := ?_) (a' := ?_) #[true, false, false, false, false, false, false, false, false, false, false] rfl rfl (any_of HT_.out (by kernel_rfl)) (fun _ _ _ h => h) (Or.inl ⟨by rfl, ?_⟩) ?_ ?_
 rotate_left
 {
 intro w'
 go_simp
 with_reducible rfl
 }
 rotate_left
 {
 simp only [Act.put, List.setIfInBounds_toArray, List.set_cons_zero, List.set_cons_succ, i64_w, i32_w]
 rfl
 }
 refine pure_ (i := 1) (N := some 20) (v := ?_) (a' := ?_) #[true, true, false, false, false, false, false, false, false, false, false] rfl rfl (any_of HT_.out (by kernel_rfl)) (fun _ _ _ h => h) (Or.inl ⟨by rfl, ?_⟩) ?_ ?_
 rotate_left
 {
 intro w'
 go_simp
 with_reducible rfl
 }
 rotate_left
 {
 simp only [Act.put, List.setIfInBounds_toArray, List.set_cons_zero, List.set_cons_succ, i64_w, i32_w]
 rfl
 }
 refine pure_ (i := 2) (N := some 21) (v := ?_) (a' := ?_) #[true, true, true, false, false, false, false, false, false, false, false] rfl rfl (any_of HT_.out (by kernel_rfl)) (fun _ _ _ h => h) (Or.inl ⟨by rfl, ?_⟩) ?_ ?_
 rotate_left
 {
 intro w'
 go_simp
 with_reducible rfl
 }
 rotate_left
 {
 simp only [Act.put, List.setIfInBounds_toArray, List.set_cons_zero, List.set_cons_succ, i64_w, i32_w]
 rfl
 }
 refine pure_ (i := 7) (N := some 26) (v := ?_) (a' := ?_) #[true, true, true, false, false, false, false, true, false, false, false] rfl rfl (any_of HT_.out (by kernel_rfl)) (fun _ _ _ h => h) (Or.inl ⟨by rfl, ?_⟩) ?_ ?_
 rotate_left
 {
 intro w'
 go_simp
 with_reducible rfl
 }
 rotate_left
 {
 simp only [Act.put, List.setIfInBounds_toArray, List.set_cons_zero, List.set_cons_succ, i64_w, i32_w]
 rfl
 }
 refine take_ (i := 3) (N := some 22) (v := ?_) (a' := ?_) #[true, true, true, true, false, false, false, true, false, false, false] rfl rfl (take_ofW HT_.out HW_.out (by kernel_rfl)) (fun _ _ _ h => h) (Or.inl ⟨by rfl, ?_⟩) hHeld ?_ ?_
 rotate_left
 {
 rintro w' ⟨s0, s1, s2, s3, s4, s5, s6, s7, s8, s9, s10⟩
 go_simp
 with_reducible rfl
 }
 rotate_left
 {
 simp only [Act.put, List.setIfInBounds_toArray, List.set_cons_zero, List.set_cons_succ, i64_w, i32_w]
 rfl
 }
 refine pure_ (i := 4) (N := some 23) (v := ?_) (a' := ?_) #[true, true, true, true, true, false, false, true, false, false, false] rfl rfl (any_of HT_.out (by kernel_rfl)) (fun _ _ _ h => h) (Or.inl ⟨by rfl, ?_⟩) ?_ ?_
 rotate_left
 {
 intro w'
 go_simp
 with_reducible rfl
 }
 rotate_left
 {
 simp only [Act.put, List.setIfInBounds_toArray, List.set_cons_zero, List.set_cons_succ, i64_w, i32_w]
 rfl
 }
 refine pure_ (i := 5) (N := some 24) (v := ?_) (a' := ?_) #[true, true, true, true, true, true, false, true, false, false, false] rfl rfl (any_of HT_.out (by kernel_rfl)) (fun _ _ _ h => h) (Or.inl ⟨by rfl, ?_⟩) ?_ ?_
 rotate_left
 {
 intro w'
 go_simp
 with_reducible rfl
 }
 rotate_left
 {
 simp only [Act.put, List.setIfInBounds_toArray, List.set_cons_zero, List.set_cons_succ, i64_w, i32_w]
 rfl
 }
 refine take_ (i := 8) (N := some 27) (v := ?_) (a' := ?_) #[true, true, true, true, true, true, false, true, true, false, false] rfl rfl (take_ofW HT_.out HW_.out (by kernel_rfl)) (fun _ _ _ h => h) (Or.inl ⟨by rfl, ?_⟩) hHeld ?_ ?_
 rotate_left
 {
 rintro w' ⟨s0, s1, s2, s3, s4, s5, s6, s7, s8, s9, s10⟩
 go_simp
 with_reducible rfl
 }
 rotate_left
 {
 simp only [Act.put, List.setIfInBounds_toArray, List.set_cons_zero, List.set_cons_succ, i64_w, i32_w]
 rfl
 }
 refine one_ (i := 6) (N := some 25) #[true, true, true, true, true, true, true, true, true, false, false] rfl rfl (one_of HT_.out (by kernel_rfl)) (by decide) (fun K hK => ?_)
 refine goes_ Try.func147 (by kernel_rfl) rfl #[.slice Ao1006 y297.length co1006, .int .i64 2, .int .i64 (wrap64 ((wrap64 (20 + (l0_9.length : Int))) + (l0_10.length : Int)))] (by rfl) rfl rfl wT ?_
 with_reducible refine (impl_put.calls k (fun k_ => some k_ = (.slice Ao1006 y297.length co1006 : Value).ownBlock) (.slice Ao1006 y297.length co1006) y297 2 (wrap64 ((wrap64 (20 + (l0_9.length : Int))) + (l0_10.length : Int))) t300 w _ ?side1 ?side2 A2.out).mono ?_
 (case side1 => repeat (first | (with_reducible first | exact HB.out | apply below_alloc | apply pw_below_drewN | apply below_drew1 | refine below_set ?_ GE296.out) | exact HB.out))
 (case side2 => exact Kd.R_tight rfl HO299.out)
 rintro e w1007 ⟨v301, rfl, ho0, hb, hkp⟩
 refine ⟨_, rfl, ?_⟩
 have n0_ := Aside0.mk (blk_kept (Bh BK296) hkp (fun hs_ => (fun e_ => (Kd.R_ne HO299.out BK296.out (by decide)) e_) hs_))
 have n1_ := Aside0.mk (Kd.R_mono (ok' := fun k_ => True) ho0 (fun k_ hk_ => trivial))
 have n2_ := Aside0.mk (hb)
 clear BK296
 clear HB
 clear HO299
 have BK296 := n0_
 have HO302 := n1_
 have HB := n2_
 clear n0_ n1_ n2_
 (try clear hb)
 (try clear hkp)
 (try clear ho0)
 obtain ⟨Ao1008, co1008, eo1008⟩ := Kd.R_slice HO302.out
 (first | subst eo1008 | (injection eo1008 with f1_ f2_ f3_; have f4_ := f1_.symm; have f5_ := f3_.symm; clear f1_ f2_ f3_; subst f4_; subst f5_))
 refine hK.out _ _ ⟨(blk_cell BK296.out 0).trans rfl, (blk_cell BK296.out 1).trans rfl, (blk_cell BK296.out 2).trans rfl, (blk_cell BK296.out 3).trans rfl, (blk_cell BK296.out 4).trans rfl, (blk_cell BK296.out 5).trans rfl, (blk_cell BK296.out 6).trans rfl, (blk_cell BK296.out 7).trans rfl, (blk_cell BK296.out 8).trans rfl, (blk_cell BK296.out 9).trans rfl, (blk_cell BK296.out 10).trans rfl⟩ (fun hHeld => ?_)
 clear hK K
 refine norm_ (a' := ?_) ?_ ?_
 rotate_left
 {
 show Act.put _ (some 25) _ = _
 simp only [Act.put, List.setIfInBounds_toArray, List.set_cons_zero, List.set_cons_succ, i64_w, i32_w]
 rfl
 }
 refine one_ (i := 9) (N := some 28) #[true, true, true, true, true, true, true, true, true, true, false] rfl rfl (one_of HT_.out (by kernel_rfl)) (by decide) (fun K hK => ?_)
 refine goes_ Try.func147 (by kernel_rfl) rfl #[.slice Ao1008 t300.length co1008, .int .i64 2, .int .i64 a0_1] (by rfl) rfl rfl wT ?_
 with_reducible refine (impl_put.calls k (fun k_ => some k_ = (.slice Ao1008 t300.length co1008 : Value).ownBlock) (.slice Ao1008 t300.length co1008) t300 2 a0_1 t303 w _ ?side1 ?side2 A3.out).mono ?_
 (case side1 => repeat (first | (with_reducible first | exact HB.out | apply below_alloc | apply pw_below_drewN | apply below_drew1 | refine below_set ?_ GE296.out) | exact HB.out))
 (case side2 => exact Kd.R_tight rfl HO302.out)
 rintro e w1009 ⟨v304, rfl, ho0, hb, hkp⟩
 refine ⟨_, rfl, ?_⟩
 have n0_ := Aside0.mk (blk_kept (Bh BK296) hkp (fun hs_ => (fun e_ => (Kd.R_ne HO302.out BK296.out (by decide)) e_) hs_))
 have n1_ := Aside0.mk (Kd.R_mono (ok' := fun k_ => True) ho0 (fun k_ hk_ => trivial))
 have n2_ := Aside0.mk (hb)
 clear BK296
 clear HB
 clear HO302
 have BK296 := n0_
 have HO305 := n1_
 have HB := n2_
 clear n0_ n1_ n2_
 (try clear hb)
 (try clear hkp)
 (try clear ho0)
 refine hK.out _ _ ⟨(blk_cell BK296.out 0).trans rfl, (blk_cell BK296.out 1).trans rfl, (blk_cell BK296.out 2).trans rfl, (blk_cell BK296.out 3).trans rfl, (blk_cell BK296.out 4).trans rfl, (blk_cell BK296.out 5).trans rfl, (blk_cell BK296.out 6).trans rfl, (blk_cell BK296.out 7).trans rfl, (blk_cell BK296.out 8).trans rfl, (blk_cell BK296.out 9).trans rfl, (blk_cell BK296.out 10).trans rfl⟩ (fun hHeld => ?_)
 clear hK K
 refine norm_ (a' := ?_) ?_ ?_
 rotate_left
 {
 show Act.put _ (some 28) _ = _
 simp only [Act.put, List.setIfInBounds_toArray, List.set_cons_zero, List.set_cons_succ, i64_w, i32_w]
 rfl
 }
 refine pure_ (i := 10) (N := some 4) (v := ?_) (a' := ?_) #[true, true, true, true, true, true, true, true, true, true, true] rfl rfl (any_of HT_.out (by kernel_rfl)) (fun _ _ _ h => h) (Or.inl ⟨by rfl, ?_⟩) ?_ ?_
 rotate_left
 {
 intro w'
 go_simp
 with_reducible rfl
 }
 rotate_left
 {
 simp only [Act.put, List.setIfInBounds_toArray, List.set_cons_zero, List.set_cons_succ, i64_w, i32_w]
 rfl
 }
 refine done_ (done_of HT_.out (by kernel_rfl)) ?_
 obtain ⟨⟨hcz1010_0, hcz1010_1, hcz1010_2, hcz1010_3, hcz1010_4, hcz1010_5, hcz1010_6, hcz1010_7, hcz1010_8, hcz1010_9, hcz1010_10⟩, hfz1010_0, hfz1010_1, hfz1010_2, hfz1010_3, hfz1010_4, hfz1010_5, hfz1010_6, hfz1010_7, hfz1010_8, hfz1010_9, hfz1010_10⟩ := cells11 BK296.out
 go_upto_if 33 with (fail)
 go_cut [5] (fun v5 wc => ∃ (kq : Nat) (x5_3 : Int), v5 = .int .i64 x5_3 ∧ Aside0 (impl_headIP.j0 kq t303 x5_3 a0_0 a0_1 a0_2 a0_3 a0_4 a0_5 a0_6 a0_7 a0_8 l0_9 l0_10 = some r) ∧ Aside0 (kq ≤ k) ∧ Aside0 (Kd.R (Kd.int .u8) 5 wc w.heap.size (fun _ => True) v304 t303) ∧ Aside0 (wc.heap[gb296]? = some (.cells #[.int .i64 a0_0, .int .i64 a0_1, .bool a0_2, .bool a0_3, .int .i64 a0_4, .int .i64 a0_5, .int .i64 a0_6, .int .i64 a0_7, .int .i64 a0_8, (.slice A0_9 l0_9.length c0_9), (.slice A0_10 l0_10.length c0_10)] 51 (0, 0))) ∧ Aside0 (Below w.heap.size w wc))
 case first => (
 have H := HC4.out
 clear HC4
 by_cases c1011 : a0_2 = true
 {
 subst c1011
 have H1 : (impl_headIP.j0 k t303 (Go.bits .or .i64 (wrap64 (Int.tdiv a0_4 8)) 16384) a0_0 a0_1 true a0_3 a0_4 a0_5 a0_6 a0_7 a0_8 l0_9 l0_10) = some r := by rw [if_pos rfl] at H; exact H
 clear H
 have H := H1
 clear H1
 have H' := Aside0.mk H
 clear H
 go_wp2
 go_meet
 case rel => exact ⟨_, (Go.bits .or .i64 (wrap64 (Int.tdiv a0_4 8)) 16384), (by first | rfl | (simp; done) | (simp [*]; done)), H', ⟨by first | omega | exact Nat.le_refl _⟩, ⟨Rh HO305⟩, ⟨Bh BK296⟩, ⟨wB⟩⟩
 }
 {
 replace c1011 := Bool.eq_false_iff.mpr c1011
 subst c1011
 have H1 : (impl_headIP.j0 k t303 (wrap64 (Int.tdiv a0_4 8)) a0_0 a0_1 false a0_3 a0_4 a0_5 a0_6 a0_7 a0_8 l0_9 l0_10) = some r := by rw [if_neg (show ¬ (false = true) by decide)] at H; exact H
 clear H
 have H := H1
 clear H1
 have H' := Aside0.mk H
 clear H
 go_wp2
 go_meet
 case rel => exact ⟨_, (wrap64 (Int.tdiv a0_4 8)), (by first | rfl | (simp; done) | (simp [*]; done)), H', ⟨by first | omega | exact Nat.le_refl _⟩, ⟨Rh HO305⟩, ⟨Bh BK296⟩, ⟨wB⟩⟩
 }
 )
 case rest => (
 clear HC4
 try clear c0
 try clear c1011
 try clear hcz1002_0 hcz1002_1 hcz1002_10 hcz1002_2 hcz1002_3 hcz1002_4 hcz1002_5 hcz1002_6 hcz1002_7 hcz1002_8 hcz1002_9 hfz1002_0 hfz1002_1 hfz1002_10 hfz1002_2 hfz1002_3 hfz1002_4 hfz1002_5 hfz1002_6 hfz1002_7 hfz1002_8 hfz1002_9
 try clear hcz1010_0 hcz1010_1 hcz1010_10 hcz1010_2 hcz1010_3 hcz1010_4 hcz1010_5 hcz1010_6 hcz1010_7 hcz1010_8 hcz1010_9 hfz1010_0 hfz1010_1 hfz1010_10 hfz1010_2 hfz1010_3 hfz1010_4 hfz1010_5 hfz1010_6 hfz1010_7 hfz1010_8 hfz1010_9
 obtain ⟨kq, x5_3, rfl, HA, HJ3, HO_4, BK296, HB⟩ := hcut
 cases kq with
 | zero => exact absurd HA.out (by simp [impl_headIP.j0])
 | succ kj3 => {
 have H := HA.out
 clear HA
 simp only [impl_headIP.j0] at H
 have HC1012 := Aside0.mk H
 clear H
 obtain ⟨⟨hcz2001_0, hcz2001_1, hcz2001_2, hcz2001_3, hcz2001_4, hcz2001_5, hcz2001_6, hcz2001_7, hcz2001_8, hcz2001_9, hcz2001_10⟩, hfz2001_0, hfz2001_1, hfz2001_2, hfz2001_3, hfz2001_4, hfz2001_5, hfz2001_6, hfz2001_7, hfz2001_8, hfz2001_9, hfz2001_10⟩ := cells11 BK296.out
 go_upto_if 37 with (fail)
 go_cut [5] (fun v5 wc => ∃ (kq : Nat) (x5_1011 : Int), v5 = .int .i64 x5_1011 ∧ Aside0 (impl_headIP.j1 kq t303 x5_1011 a0_0 a0_1 a0_2 a0_3 a0_4 a0_5 a0_6 a0_7 a0_8 l0_9 l0_10 = some r) ∧ Aside0 (kq ≤ kj3) ∧ Aside0 (Kd.R (Kd.int .u8) 5 wc w.heap.size (fun _ => True) v304 t303) ∧ Aside0 (wc.heap[gb296]? = some (.cells #[.int .i64 a0_0, .int .i64 a0_1, .bool a0_2, .bool a0_3, .int .i64 a0_4, .int .i64 a0_5, .int .i64 a0_6, .int .i64 a0_7, .int .i64 a0_8, (.slice A0_9 l0_9.length c0_9), (.slice A0_10 l0_10.length c0_10)] 51 (0, 0))) ∧ Aside0 (Below w.heap.size w wc))
 case first => (
 have H := HC1012.out
 clear HC1012
 by_cases c2002 : a0_3 = true
 {
 subst c2002
 have H1 : (impl_headIP.j1 kj3 t303 (Go.bits .or .i64 x5_3 8192) a0_0 a0_1 a0_2 true a0_4 a0_5 a0_6 a0_7 a0_8 l0_9 l0_10) = some r := by rw [if_pos rfl] at H; exact H
 clear H
 have H := H1
 clear H1
 have H' := Aside0.mk H
 clear H
 go_wp2
 go_meet
 case rel => exact ⟨_, (Go.bits .or .i64 x5_3 8192), (by first | rfl | (simp; done) | (simp [*]; done)), H', ⟨by have := HJ3.out; first | omega | exact Nat.le_refl _⟩, ⟨Rh HO_4⟩, ⟨Bh BK296⟩, ⟨wB⟩⟩
 }
 {
 replace c2002 := Bool.eq_false_iff.mpr c2002
 subst c2002
 have H1 : (impl_headIP.j1 kj3 t303 x5_3 a0_0 a0_1 a0_2 false a0_4 a0_5 a0_6 a0_7 a0_8 l0_9 l0_10) = some r := by rw [if_neg (show ¬ (false = true) by decide)] at H; exact H
 clear H
 have H := H1
 clear H1
 have H' := Aside0.mk H
 clear H
 go_wp2
 go_meet
 case rel => exact ⟨_, (x5_3), (by first | rfl | (simp; done) | (simp [*]; done)), H', ⟨by have := HJ3.out; first | omega | exact Nat.le_refl _⟩, ⟨Rh HO_4⟩, ⟨Bh BK296⟩, ⟨wB⟩⟩
 }
 )
 case rest => (
 clear HC1012
 try clear c0
 try clear c1011
 try clear c2002
 try clear hcz1002_0 hcz1002_1 hcz1002_10 hcz1002_2 hcz1002_3 hcz1002_4 hcz1002_5 hcz1002_6 hcz1002_7 hcz1002_8 hcz1002_9 hfz1002_0 hfz1002_1 hfz1002_10 hfz1002_2 hfz1002_3 hfz1002_4 hfz1002_5 hfz1002_6 hfz1002_7 hfz1002_8 hfz1002_9
 try clear hcz1010_0 hcz1010_1 hcz1010_10 hcz1010_2 hcz1010_3 hcz1010_4 hcz1010_5 hcz1010_6 hcz1010_7 hcz1010_8 hcz1010_9 hfz1010_0 hfz1010_1 hfz1010_10 hfz1010_2 hfz1010_3 hfz1010_4 hfz1010_5 hfz1010_6 hfz1010_7 hfz1010_8 hfz1010_9
 try clear hcz2001_0 hcz2001_1 hcz2001_10 hcz2001_2 hcz2001_3 hcz2001_4 hcz2001_5 hcz2001_6 hcz2001_7 hcz2001_8 hcz2001_9 hfz2001_0 hfz2001_1 hfz2001_10 hfz2001_2 hfz2001_3 hfz2001_4 hfz2001_5 hfz2001_6 hfz2001_7 hfz2001_8 hfz2001_9
 obtain ⟨kq, x5_1011, rfl, HA, HJ1011, HO_4, BK296, HB⟩ := hcut
 cases kq with
 | zero => exact absurd HA.out (by simp [impl_headIP.j1])
 | succ kj1011 => {
 have H := HA.out
 clear HA
 simp only [impl_headIP.j1] at H
 replace H := Option.bind_eq_some_iff.mp H
 obtain ⟨t306, A20030, H⟩ := H
 replace H : ((some (([(a0_5) % 256, (a0_6) % 256, 0, 0] : List Int) : List Int)).bind fun y309 => (if t306.length + y309.length < 140737488355328 then ((impl_put.f kj1011 (t306 ++ y309) 4 a0_7).bind fun t315 => ((impl_put.f kj1011 t315 4 a0_8).bind fun t318 => (if t318.length + l0_9.length < 140737488355328 then ((some (t318 ++ l0_9 : List Int)).bind fun y321 => ((impl_Checksum.f kj1011 y321).bind fun t324 => (if 10 < (y321.length : Int) then (if 11 < (y321.length : Int) then (some ((y321.set (10 : Int).toNat ((t324 / 256) % 256)).set (11 : Int).toNat ((t324) % 256))) else (none)) else (none)))) else (none)))) else (none))) = some r := H
 have A2003 := Aside0.mk A20030
 clear A20030
 obtain ⟨y309, hy309⟩ : ∃ y_ : List Int, y_ = (([(a0_5) % 256, (a0_6) % 256, 0, 0] : List Int)) := ⟨_, rfl⟩
 replace H : (if t306.length + y309.length < 140737488355328 then ((impl_put.f kj1011 (t306 ++ y309) 4 a0_7).bind fun t315 => ((impl_put.f kj1011 t315 4 a0_8).bind fun t318 => (if t318.length + l0_9.length < 140737488355328 then ((some (t318 ++ l0_9 : List Int)).bind fun y321 => ((impl_Checksum.f kj1011 y321).bind fun t324 => (if 10 < (y321.length : Int) then (if 11 < (y321.length : Int) then (some ((y321.set (10 : Int).toNat ((t324 / 256) % 256)).set (11 : Int).toNat ((t324) % 256))) else (none)) else (none)))) else (none)))) else (none)) = some r := by first | (rw [hy309]; with_reducible exact H) | (have H2_ := (Option.bind_some _ _).symm.trans H; rw [hy309]; with_reducible exact H2_) | (have H2_ := (Option.bind_some _ _).symm.trans H; with_reducible exact H2_) | with_reducible exact H | (rw [hy309]; exact H) | exact H
 have Ny309 := Aside0.mk hy309
 clear hy309
 by_cases c2004 : t306.length + y309.length < 140737488355328
 {
 rw [if_pos c2004] at H
 have LMc2004 := Aside0.mk c2004
 clear c2004
 obtain ⟨y312, hy312⟩ : ∃ y_ : List Int, y_ = (t306 ++ y309) := ⟨_, rfl⟩
 replace H : ((impl_put.f kj1011 y312 4 a0_7).bind fun t315 => ((impl_put.f kj1011 t315 4 a0_8).bind fun t318 => (if t318.length + l0_9.length < 140737488355328 then ((some (t318 ++ l0_9 : List Int)).bind fun y321 => ((impl_Checksum.f kj1011 y321).bind fun t324 => (if 10 < (y321.length : Int) then (if 11 < (y321.length : Int) then (some ((y321.set (10 : Int).toNat ((t324 / 256) % 256)).set (11 : Int).toNat ((t324) % 256))) else (none)) else (none)))) else (none)))) = some r := by first | (rw [hy312]; with_reducible exact H) | (have H2_ := (Option.bind_some _ _).symm.trans H; rw [hy312]; with_reducible exact H2_) | (have H2_ := (Option.bind_some _ _).symm.trans H; with_reducible exact H2_) | with_reducible exact H | (rw [hy312]; exact H) | exact H
 have Ny312 := Aside0.mk hy312
 clear hy312
 replace H := Option.bind_eq_some_iff.mp H
 obtain ⟨t315, A20050, H⟩ := H
 replace H : ((impl_put.f kj1011 t315 4 a0_8).bind fun t318 => (if t318.length + l0_9.length < 140737488355328 then ((some (t318 ++ l0_9 : List Int)).bind fun y321 => ((impl_Checksum.f kj1011 y321).bind fun t324 => (if 10 < (y321.length : Int) then (if 11 < (y321.length : Int) then (some ((y321.set (10 : Int).toNat ((t324 / 256) % 256)).set (11 : Int).toNat ((t324) % 256))) else (none)) else (none)))) else (none))) = some r := H
 have A2005 := Aside0.mk A20050
 clear A20050
 replace H := Option.bind_eq_some_iff.mp H
 obtain ⟨t318, A20060, H⟩ := H
 replace H : (if t318.length + l0_9.length < 140737488355328 then ((some (t318 ++ l0_9 : List Int)).bind fun y321 => ((impl_Checksum.f kj1011 y321).bind fun t324 => (if 10 < (y321.length : Int) then (if 11 < (y321.length : Int) then (some ((y321.set (10 : Int).toNat ((t324 / 256) % 256)).set (11 : Int).toNat ((t324) % 256))) else (none)) else (none)))) else (none)) = some r := H
 have A2006 := Aside0.mk A20060
 clear A20060
 by_cases c2007 : t318.length + l0_9.length < 140737488355328
 {
 rw [if_pos c2007] at H
 have LMc2007 := Aside0.mk c2007
 clear c2007
 obtain ⟨y321, hy321⟩ : ∃ y_ : List Int, y_ = (t318 ++ l0_9) := ⟨_, rfl⟩
 replace H : ((impl_Checksum.f kj1011 y321).bind fun t324 => (if 10 < (y321.length : Int) then (if 11 < (y321.length : Int) then (some ((y321.set (10 : Int).toNat ((t324 / 256) % 256)).set (11 : Int).toNat ((t324) % 256))) else (none)) else (none))) = some r := by first | (rw [hy321]; with_reducible exact H) | (have H2_ := (Option.bind_some _ _).symm.trans H; rw [hy321]; with_reducible exact H2_) | (have H2_ := (Option.bind_some _ _).symm.trans H; with_reducible exact H2_) | with_reducible exact H | (rw [hy321]; exact H) | exact H
 have Ny321 := Aside0.mk hy321
 clear hy321
 replace H := Option.bind_eq_some_iff.mp H
 obtain ⟨t324, A20080, H⟩ := H
 replace H : (if 10 < (y321.length : Int) then (if 11 < (y321.length : Int) then (some ((y321.set (10 : Int).toNat ((t324 / 256) % 256)).set (11 : Int).toNat ((t324) % 256))) else (none)) else (none)) = some r := H
 have A2008 := Aside0.mk A20080
 clear A20080
 by_cases c2009 : 10 < (y321.length : Int)
 {
 rw [if_pos c2009] at H
 have c2009b0 : decide (10 < (y321.length : Int)) = true := decide_eq_true c2009
 have c2009b1 : decide (10 < y321.length) = true := decide_eq_true (by omega)
 clear c2009
 obtain ⟨y325, hy325⟩ : ∃ y_ : List Int, y_ = (y321.set (10 : Int).toNat ((t324 / 256) % 256)) := ⟨_, rfl⟩
 replace H : (if 11 < (y321.length : Int) then (some (y325.set (11 : Int).toNat ((t324) % 256))) else (none)) = some r := by first | (rw [hy325]; with_reducible exact H) | (have H2_ := (Option.bind_some _ _).symm.trans H; rw [hy325]; with_reducible exact H2_) | (have H2_ := (Option.bind_some _ _).symm.trans H; with_reducible exact H2_) | with_reducible exact H | (rw [hy325]; exact H) | exact H
 have Ny325 := Aside0.mk hy325
 clear hy325
 by_cases c2011 : 11 < (y321.length : Int)
 {
 rw [if_pos c2011] at H
 have c2011b0 : decide (11 < (y321.length : Int)) = true := decide_eq_true c2011
 have c2011b1 : decide (11 < y321.length) = true := decide_eq_true (by omega)
 clear c2011
 obtain ⟨y326, hy326⟩ : ∃ y_ : List Int, y_ = (y325.set (11 : Int).toNat ((t324) % 256)) := ⟨_, rfl⟩
 replace H : (some y326) = some r := by first | (rw [hy326]; with_reducible exact H) | (have H2_ := (Option.bind_some _ _).symm.trans H; rw [hy326]; with_reducible exact H2_) | (have H2_ := (Option.bind_some _ _).symm.trans H; with_reducible exact H2_) | with_reducible exact H | (rw [hy326]; exact H) | exact H
 have Ny326 := Aside0.mk hy326
 clear hy326
 obtain rfl := Option.some.inj H
 obtain ⟨Ao3001, co3001, eo3001⟩ := Kd.R_slice HO_4.out
 subst eo3001
 try go_wp2_with (first | ((with_reducible refine gate_callee (f := 147) rfl ?_); refine goesL_ (some 42) rfl rfl Try.func147 (by kernel_rfl) rfl #[.slice Ao3001 t303.length co3001, .int .i64 2, .int .i64 x5_1011] rfl wT ?_; (with_reducible refine (impl_put.calls kj1011 (fun k_ => some k_ = (.slice Ao3001 t303.length co3001 : Value).ownBlock) (.slice Ao3001 t303.length co3001) t303 2 x5_1011 t306 w _ ?side1 ?side2 A2003.out).mono ?_); (case side1 => repeat (first | (with_reducible first | exact HB.out | apply below_alloc | apply pw_below_drewN | apply below_drew1 | refine below_set ?_ GE296.out) | exact HB.out)); (case side2 => exact Kd.R_tight rfl HO_4.out); rintro e w3002 ⟨v307, rfl, ho0, hb, hkp⟩; refine ⟨_, rfl, ?_⟩; have n0_ := Aside0.mk (blk_kept (Bh BK296) hkp (fun hs_ => (fun e_ => (Kd.R_ne HO_4.out BK296.out (by decide)) e_) hs_)); have n1_ := Aside0.mk (Kd.R_mono (ok' := fun k_ => True) ho0 (fun k_ hk_ => trivial)); have n2_ := Aside0.mk (hb); clear BK296; clear HB; clear HO_4; have BK296 := n0_; have HO308 := n1_; have HB := n2_; clear n0_ n1_ n2_; (try clear hb); (try clear hkp); (try clear ho0); obtain ⟨⟨hcz3003_0, hcz3003_1, hcz3003_2, hcz3003_3, hcz3003_4, hcz3003_5, hcz3003_6, hcz3003_7, hcz3003_8, hcz3003_9, hcz3003_10⟩, hfz3003_0, hfz3003_1, hfz3003_2, hfz3003_3, hfz3003_4, hfz3003_5, hfz3003_6, hfz3003_7, hfz3003_8, hfz3003_9, hfz3003_10⟩ := cells11 BK296.out) | ((with_reducible refine gate_dst (N := 50) rfl ?_); refine Kd.R_lit (Kd.int .u8) _ 5 ?hg (N := 50) ?hd (xs := ([(a0_5) % 256, (a0_6) % 256, 0, 0] : List Int)) (inner := [.int .u8 ((a0_5) % 256), .int .u8 ((a0_6) % 256), .int .u8 0, .int .u8 0]) (ok := fun _ => True) (okp := fun _ => True) ?hr ?hp (fun _ hk => hk) trivial (Below.refl _ _) (Nat.le_refl _) (by simp) ?_; (case hd => rfl); (case hg => rfl); (case hr => first | (go_simp; done) | (go_simp; rfl)); (case hp => exact (Reps.one (show Kd.M (Kd.int .u8) _ _ _ ((a0_5) % 256) [.int .u8 ((a0_5) % 256)] from rfl) (Reps.one (show Kd.M (Kd.int .u8) _ _ _ ((a0_6) % 256) [.int .u8 ((a0_6) % 256)] from rfl) (Reps.one (show Kd.M (Kd.int .u8) _ _ _ 0 [.int .u8 0] from rfl) (Reps.one (show Kd.M (Kd.int .u8) _ _ _ 0 [.int .u8 0] from rfl) (Reps.none _ _)))))); intro v310 w3004 ho3005 hb hg_ hnew_; clear hg_ hnew_; (first | rw [← Ny309.out] at ho3005 | (simp only [Int.reduceToNat] at ho3005; rw [← Ny309.out] at ho3005)); have n0_ := Aside0.mk (Kd.R_elder' (Rh HO308) (Kd.R_base ho3005) hb); have n1_ := Aside0.mk (Kd.R_lower (Kd.R_new' ho3005 (Kd.R_lt (Rh HO308))) (below_size wB)); have n2_ := Aside0.mk (blk_below (Bh BK296) hb); have n3_ := Aside0.mk (below_step wB hb); clear HO308; clear BK296; clear HB; have HO308 := n0_; have HO311 := n1_; have BK296 := n2_; have HB := n3_; clear n0_ n1_ n2_ n3_; clear hb ho3005; obtain ⟨Ao3007, co3007, eo3007⟩ := Kd.R_slice HO311.out; subst eo3007) | ((with_reducible refine gate_builtin (b := .append) (xs := #[.tmp 43, .tmp 50]) rfl ?_); at_builtin; refine Kd.R_append_rows (Kd.int .u8) (w0 := w) w.heap.size rfl (.tmp 43) (.tmp 50) 22 5 (.int .u8 0) 1 rfl Try.underlying22 info5 rfl (by decide) (by omega) v307 t306 y309 _ _ _ (fun k_ => some k_ ≠ (.slice Ao3007 y309.length co3007 : Value).ownBlock) (fun _ => False) rfl rfl ?aO ?aR (fun _ _ h => h) (fun _ h => h.elim) ?aF ?aB ?aS ?aL ?_; (case aR => exact Ch HO311); (case aB => exact wB); (case aF => exact (fun k_ hk => Kd.fresh' (Kd.R_lt (Rh HO311)) k_ hk)); (case aO => exact (Kd.R_mono (Rh HO308) (fun _ hk => hk.2))); (case aS => exact (below_size wB)); (case aL => have := LMc2004.out; omega); intro v313 w3006 ho hb hg hat; rw [← Ny312.out] at ho; have n0_ := Aside0.mk (blk_grown (Bh BK296) hg (Kd.R_ne HO308.out BK296.out (by decide))); have n1_ := Aside0.mk (Kd.R_after (ok := (fun _ => True)) (Rh HO311) hg hat); have n2_ := Aside0.mk (hb); have n3_ := Aside0.mk (ho); clear BK296; clear HO311; clear HB; clear HO308; have BK296 := n0_; have HO311 := n1_; have HB := n2_; have HO314 := n3_; clear n0_ n1_ n2_ n3_; clear ho hb hg hat))
 have n0_ := Aside0.mk (Kd.R_drew HO311.out)
 have n1_ := Aside0.mk (Kd.R_drew HO314.out)
 have n2_ := Aside0.mk (blk_drew BK296.out)
 have n3_ := Aside0.mk (below_drew1 HB.out)
 clear HO311
 clear HO314
 clear BK296
 clear HB
 have HO311 := n0_
 have HO314 := n1_
 have BK296 := n2_
 have HB := n3_
 clear n0_ n1_ n2_ n3_
 obtain ⟨Ao3009, co3009, eo3009⟩ := Kd.R_slice HO314.out
 (first | subst eo3009 | (injection eo3009 with f1_ f2_ f3_; have f4_ := f1_.symm; have f5_ := f3_.symm; clear f1_ f2_ f3_; subst f4_; subst f5_))
 refine start_ (n := 11) (S := fun w' => w'.cell? ⟨gb296, 0, none⟩ = some (.int .i64 a0_0) ∧ w'.cell? ⟨gb296, 1, none⟩ = some (.int .i64 a0_1) ∧ w'.cell? ⟨gb296, 2, none⟩ = some (.bool a0_2) ∧ w'.cell? ⟨gb296, 3, none⟩ = some (.bool a0_3) ∧ w'.cell? ⟨gb296, 4, none⟩ = some (.int .i64 a0_4) ∧ w'.cell? ⟨gb296, 5, none⟩ = some (.int .i64 a0_5) ∧ w'.cell? ⟨gb296, 6, none⟩ = some (.int .i64 a0_6) ∧ w'.cell? ⟨gb296, 7, none⟩ = some (.int .i64 a0_7) ∧ w'.cell? ⟨gb296, 8, none⟩ = some (.int .i64 a0_8) ∧ w'.cell? ⟨gb296, 9, none⟩ = some (.slice A0_9 l0_9.length c0_9) ∧ w'.cell? ⟨gb296, 10, none⟩ = some (.slice A0_10 l0_10.length c0_10)) (ds := []) #[false, false, false, false, false, false, false, false, false, false, false] (by kernel_rfl) rfl rfl ⟨(blk_cell BK296.out 0).trans rfl, (blk_cell BK296.out 1).trans rfl, (blk_cell BK296.out 2).trans rfl, (blk_cell BK296.out 3).trans rfl, (blk_cell BK296.out 4).trans rfl, (blk_cell BK296.out 5).trans rfl, (blk_cell BK296.out 6).trans rfl, (blk_cell BK296.out 7).trans rfl, (blk_cell BK296.out 8).trans rfl, (blk_cell BK296.out 9).trans rfl, (blk_cell BK296.out 10).trans rfl⟩ (fun hHeld => ?_); refine with_tabW impl_headIP.tab11 impl_headIP.bits11 (fun HT_ HW_ => ?_)
 generalize w3006.drew = w3008 at HO311 HO314 BK296 HB hHeld ⊢
 refine pure_ (i := 0) (N := some 52) (v := ?_) (a' := ?_) #[true, false, false, false, false, false, false, false, false, false, false] rfl rfl (any_of HT_.out (by kernel_rfl)) (fun _ _ _ h => h) (Or.inl ⟨by rfl, ?_⟩) ?_ ?_
 rotate_left
 {
 intro w'
 go_simp
 with_reducible rfl
 }
 rotate_left
 {
 simp only [Act.put, List.setIfInBounds_toArray, List.set_cons_zero, List.set_cons_succ, i64_w, i32_w]
 rfl
 }
 refine pure_ (i := 1) (N := some 53) (v := ?_) (a' := ?_) #[true, true, false, false, false, false, false, false, false, false, false] rfl rfl (any_of HT_.out (by kernel_rfl)) (fun _ _ _ h => h) (Or.inl ⟨by rfl, ?_⟩) ?_ ?_
 rotate_left
 {
 intro w'
 go_simp
 with_reducible rfl
 }
 rotate_left
 {
 simp only [Act.put, List.setIfInBounds_toArray, List.set_cons_zero, List.set_cons_succ, i64_w, i32_w]
 rfl
 }
 refine pure_ (i := 4) (N := some 56) (v := ?_) (a' := ?_) #[true, true, false, false, true, false, false, false, false, false, false] rfl rfl (any_of HT_.out (by kernel_rfl)) (fun _ _ _ h => h) (Or.inl ⟨by rfl, ?_⟩) ?_ ?_
 rotate_left
 {
 intro w'
 go_simp
 with_reducible rfl
 }
 rotate_left
 {
 simp only [Act.put, List.setIfInBounds_toArray, List.set_cons_zero, List.set_cons_succ, i64_w, i32_w]
 rfl
 }
 refine pure_ (i := 7) (N := some 59) (v := ?_) (a' := ?_) #[true, true, false, false, true, false, false, true, false, false, false] rfl rfl (any_of HT_.out (by kernel_rfl)) (fun _ _ _ h => h) (Or.inl ⟨by rfl, ?_⟩) ?_ ?_
 rotate_left
 {
 intro w'
 go_simp
 with_reducible rfl
 }
 rotate_left
 {
 simp only [Act.put, List.setIfInBounds_toArray, List.set_cons_zero, List.set_cons_succ, i64_w, i32_w]
 rfl
 }
 refine take_ (i := 2) (N := some 54) (v := ?_) (a' := ?_) #[true, true, true, false, true, false, false, true, false, false, false] rfl rfl (take_ofW HT_.out HW_.out (by kernel_rfl)) (fun _ _ _ h => h) (Or.inl ⟨by rfl, ?_⟩) hHeld ?_ ?_
 rotate_left
 {
 rintro w' ⟨s0, s1, s2, s3, s4, s5, s6, s7, s8, s9, s10⟩
 go_simp
 with_reducible rfl
 }
 rotate_left
 {
 simp only [Act.put, List.setIfInBounds_toArray, List.set_cons_zero, List.set_cons_succ, i64_w, i32_w]
 rfl
 }
 refine take_ (i := 5) (N := some 57) (v := ?_) (a' := ?_) #[true, true, true, false, true, true, false, true, false, false, false] rfl rfl (take_ofW HT_.out HW_.out (by kernel_rfl)) (fun _ _ _ h => h) (Or.inl ⟨by rfl, ?_⟩) hHeld ?_ ?_
 rotate_left
 {
 rintro w' ⟨s0, s1, s2, s3, s4, s5, s6, s7, s8, s9, s10⟩
 go_simp
 with_reducible rfl
 }
 rotate_left
 {
 simp only [Act.put, List.setIfInBounds_toArray, List.set_cons_zero, List.set_cons_succ, i64_w, i32_w]
 rfl
 }
 refine take_ (i := 8) (N := some 60) (v := ?_) (a' := ?_) #[true, true, true, false, true, true, false, true, true, false, false] rfl rfl (take_ofW HT_.out HW_.out (by kernel_rfl)) (fun _ _ _ h => h) (Or.inl ⟨by rfl, ?_⟩) hHeld ?_ ?_
 rotate_left
 {
 rintro w' ⟨s0, s1, s2, s3, s4, s5, s6, s7, s8, s9, s10⟩
 go_simp
 with_reducible rfl
 }
 rotate_left
 {
 simp only [Act.put, List.setIfInBounds_toArray, List.set_cons_zero, List.set_cons_succ, i64_w, i32_w]
 rfl
 }
 refine one_ (i := 3) (N := some 55) #[true, true, true, true, true, true, false, true, true, false, false] rfl rfl (one_of HT_.out (by kernel_rfl)) (by decide) (fun K hK => ?_)
 refine goes_ Try.func147 (by kernel_rfl) rfl #[.slice Ao3009 y312.length co3009, .int .i64 4, .int .i64 a0_7] (by rfl) rfl rfl wT ?_
 with_reducible refine (impl_put.calls kj1011 (fun k_ => some k_ = (.slice Ao3009 y312.length co3009 : Value).ownBlock) (.slice Ao3009 y312.length co3009) y312 4 a0_7 t315 w _ ?side1 ?side2 A2005.out).mono ?_
 (case side1 => repeat (first | (with_reducible first | exact HB.out | apply below_alloc | apply pw_below_drewN | apply below_drew1 | refine below_set ?_ GE296.out) | exact HB.out))
 (case side2 => exact Kd.R_tight rfl HO314.out)
 rintro e w3010 ⟨v316, rfl, ho0, hb, hkp⟩
 refine ⟨_, rfl, ?_⟩
 have n0_ := Aside0.mk (blk_kept (Bh BK296) hkp (fun hs_ => (fun e_ => (Kd.R_ne HO314.out BK296.out (by decide)) e_) hs_))
 have n1_ := Aside0.mk (Kd.R_mono (ok' := fun k_ => some k_ ≠ (v316 : Value).ownBlock) (Kd.R_keptB (HO311.out) hkp (fun k_ hk_ hs_ => (hk_.2) hs_)) (fun k_ hk_ => fun e_ => Or.elim (ho0.1 k_ e_.symm) (fun hs_ => hk_.2.1 hs_) (fun hn_ => Nat.not_le.2 hk_.2.2 hn_)))
 have n2_ := Aside0.mk (Kd.R_mono (ok' := fun k_ => some k_ ≠ (.slice Ao3007 y309.length co3007 : Value).ownBlock) ho0 (fun k_ hk_ => Or.elim hk_ (fun hs_ => fun e_ => (((HO311.out).1 k_ e_.symm).2) hs_) (fun hn_ => (Kd.fresh' (Kd.R_lt (Rh HO311)) k_ hn_))))
 have n3_ := Aside0.mk (hb)
 clear BK296
 clear HO311
 clear HB
 clear HO314
 have BK296 := n0_
 have HO311 := n1_
 have HO317 := n2_
 have HB := n3_
 clear n0_ n1_ n2_ n3_
 (try clear hb)
 (try clear hkp)
 (try clear ho0)
 obtain ⟨Ao3011, co3011, eo3011⟩ := Kd.R_slice HO317.out
 (first | subst eo3011 | (injection eo3011 with f1_ f2_ f3_; have f4_ := f1_.symm; have f5_ := f3_.symm; clear f1_ f2_ f3_; subst f4_; subst f5_))
 refine hK.out _ _ ⟨(blk_cell BK296.out 0).trans rfl, (blk_cell BK296.out 1).trans rfl, (blk_cell BK296.out 2).trans rfl, (blk_cell BK296.out 3).trans rfl, (blk_cell BK296.out 4).trans rfl, (blk_cell BK296.out 5).trans rfl, (blk_cell BK296.out 6).trans rfl, (blk_cell BK296.out 7).trans rfl, (blk_cell BK296.out 8).trans rfl, (blk_cell BK296.out 9).trans rfl, (blk_cell BK296.out 10).trans rfl⟩ (fun hHeld => ?_)
 clear hK K
 refine norm_ (a' := ?_) ?_ ?_
 rotate_left
 {
 show Act.put _ (some 55) _ = _
 simp only [Act.put, List.setIfInBounds_toArray, List.set_cons_zero, List.set_cons_succ, i64_w, i32_w]
 rfl
 }
 refine one_ (i := 6) (N := some 58) #[true, true, true, true, true, true, true, true, true, false, false] rfl rfl (one_of HT_.out (by kernel_rfl)) (by decide) (fun K hK => ?_)
 refine goes_ Try.func147 (by kernel_rfl) rfl #[.slice Ao3011 t315.length co3011, .int .i64 4, .int .i64 a0_8] (by rfl) rfl rfl wT ?_
 with_reducible refine (impl_put.calls kj1011 (fun k_ => some k_ = (.slice Ao3011 t315.length co3011 : Value).ownBlock) (.slice Ao3011 t315.length co3011) t315 4 a0_8 t318 w _ ?side1 ?side2 A2006.out).mono ?_
 (case side1 => repeat (first | (with_reducible first | exact HB.out | apply below_alloc | apply pw_below_drewN | apply below_drew1 | refine below_set ?_ GE296.out) | exact HB.out))
 (case side2 => exact Kd.R_tight rfl HO317.out)
 rintro e w3012 ⟨v319, rfl, ho0, hb, hkp⟩
 refine ⟨_, rfl, ?_⟩
 have n0_ := Aside0.mk (blk_kept (Bh BK296) hkp (fun hs_ => (fun e_ => (Kd.R_ne HO317.out BK296.out (by decide)) e_) hs_))
 have n1_ := Aside0.mk (Kd.R_mono (ok' := fun k_ => some k_ ≠ (v319 : Value).ownBlock) (Kd.R_keptB (HO311.out) hkp (fun k_ hk_ hs_ => (hk_) hs_)) (fun k_ hk_ => fun e_ => Or.elim (ho0.1 k_ e_.symm) (fun hs_ => hk_.2.1 hs_) (fun hn_ => Nat.not_le.2 hk_.2.2 hn_)))
 have n2_ := Aside0.mk (Kd.R_mono (ok' := fun k_ => some k_ ≠ (.slice Ao3007 y309.length co3007 : Value).ownBlock) ho0 (fun k_ hk_ => Or.elim hk_ (fun hs_ => fun e_ => (((HO311.out).1 k_ e_.symm)) hs_) (fun hn_ => (Kd.fresh' (Kd.R_lt (Rh HO311)) k_ hn_))))
 have n3_ := Aside0.mk (hb)
 clear BK296
 clear HO311
 clear HB
 clear HO317
 have BK296 := n0_
 have HO311 := n1_
 have HO320 := n2_
 have HB := n3_
 clear n0_ n1_ n2_ n3_
 (try clear hb)
 (try clear hkp)
 (try clear ho0)
 refine hK.out _ _ ⟨(blk_cell BK296.out 0).trans rfl, (blk_cell BK296.out 1).trans rfl, (blk_cell BK296.out 2).trans rfl, (blk_cell BK296.out 3).trans rfl, (blk_cell BK296.out 4).trans rfl, (blk_cell BK296.out 5).trans rfl, (blk_cell BK296.out 6).trans rfl, (blk_cell BK296.out 7).trans rfl, (blk_cell BK296.out 8).trans rfl, (blk_cell BK296.out 9).trans rfl, (blk_cell BK296.out 10).trans rfl⟩ (fun hHeld => ?_)
 clear hK K
 refine norm_ (a' := ?_) ?_ ?_
 rotate_left
 {
 show Act.put _ (some 58) _ = _
 simp only [Act.put, List.setIfInBounds_toArray, List.set_cons_zero, List.set_cons_succ, i64_w, i32_w]
 rfl
 }
 refine one_ (i := 9) (N := some 61) #[true, true, true, true, true, true, true, true, true, true, false] rfl rfl (one_of HT_.out (by kernel_rfl)) (by decide) (fun K hK => ?_)
 refine Kd.R_append_rows_step (Kd.int .u8) (w0 := w) w.heap.size (by rfl) (.tmp 58) (.tmp 60) 22 5 (.int .u8 0) 1 rfl Try.underlying22 info5 rfl (by decide) (by omega) v319 t318 l0_9 _ _ _ (fun k_ => some k_ ≠ (.slice Ao3007 y309.length co3007 : Value).ownBlock) (fun _ => False) rfl rfl ?aO ?aR (fun _ _ h => h) (fun _ h => h.elim) ?aF ?aB ?aS ?aL ?_
 (case aR => exact Kd.C_below HR0_9.out wB)
 (case aB => exact wB)
 (case aF => exact (fun k_ hk => Kd.fresh' (Kd.R_lt (Rh HO311)) k_ hk))
 (case aO => exact (Rh HO320))
 (case aS => exact (below_size wB))
 (case aL => have := LMc2007.out; omega)
 intro v322 w3013 ho hb hg hat
 rw [← Ny321.out] at ho
 have n0_ := Aside0.mk (blk_grown (Bh BK296) hg (Kd.R_ne HO320.out BK296.out (by decide)))
 have n1_ := Aside0.mk (Kd.R_after (ok := (fun _ => True)) (Kd.R_mono (Rh HO311) (fun _ hk => ⟨trivial, hk⟩)) hg hat)
 have n2_ := Aside0.mk (hb)
 have n3_ := Aside0.mk (ho)
 clear BK296
 clear HO311
 clear HB
 clear HO320
 have BK296 := n0_
 have HO311 := n1_
 have HB := n2_
 have HO323 := n3_
 clear n0_ n1_ n2_ n3_
 clear ho hb hg hat
 refine hK.out _ _ ⟨(blk_cell BK296.out 0).trans rfl, (blk_cell BK296.out 1).trans rfl, (blk_cell BK296.out 2).trans rfl, (blk_cell BK296.out 3).trans rfl, (blk_cell BK296.out 4).trans rfl, (blk_cell BK296.out 5).trans rfl, (blk_cell BK296.out 6).trans rfl, (blk_cell BK296.out 7).trans rfl, (blk_cell BK296.out 8).trans rfl, (blk_cell BK296.out 9).trans rfl, (blk_cell BK296.out 10).trans rfl⟩ (fun hHeld => ?_)
 clear hK K
 refine norm_ (a' := ?_) ?_ ?_
 rotate_left
 {
 show Act.put _ (some 61) _ = _
 simp only [Act.put, List.setIfInBounds_toArray, List.set_cons_zero, List.set_cons_succ, i64_w, i32_w]
 rfl
 }
 refine pure_ (i := 10) (N := some 4) (v := ?_) (a' := ?_) #[true, true, true, true, true, true, true, true, true, true, true] rfl rfl (any_of HT_.out (by kernel_rfl)) (fun _ _ _ h => h) (Or.inl ⟨by rfl, ?_⟩) ?_ ?_
 rotate_left
 {
 intro w'
 go_simp
 with_reducible rfl
 }
 rotate_left
 {
 simp only [Act.put, List.setIfInBounds_toArray, List.set_cons_zero, List.set_cons_succ, i64_w, i32_w]
 rfl
 }
 refine done_ (done_of HT_.out (by kernel_rfl)) ?_
 have n_ := Aside0.mk (Kd.R_mono (ok' := (fun _ => True)) HO323.out (fun k_ hk => trivial))
 clear HO323
 have HO323 := n_
 clear n_
 (try clear HO311)
 obtain ⟨Ao3014, co3014, eo3014⟩ := Kd.R_slice HO323.out
 subst eo3014
 try go_wp2_with (first | ((with_reducible refine gate_callee (f := 71) rfl ?_); refine goesL_ (some 63) rfl rfl Try.func71 (by kernel_rfl) rfl #[.slice Ao3014 y321.length co3014] rfl wT ?_; (with_reducible refine (impl_Checksum.calls kj1011 _ _ y321 t324 _ ?side1 ?side2 A2008.out).mono ?_); (case side1 => exact Ch HO323); (case side2 => exact (Kd.R_reads' HO323.out).2.1); rintro e w' ⟨rfl, ⟨nd, rfl⟩⟩; refine ⟨_, rfl, ?_⟩; (try (rw [drewN_self w3013]; generalize hq_ : World.drewN w3013 _ = w3013; have n0_ := Aside0.mk (Kd.R_at hq_ HO323.out); have n1_ := Aside0.mk (blk_at hq_ BK296.out); have n2_ := Aside0.mk (below_at hq_ HB.out); clear hq_ HO323 BK296 HB; have HO323 := n0_; have BK296 := n1_; have HB := n2_; clear n0_ n1_ n2_; (try (obtain ⟨⟨hcyBK296_0, hcyBK296_1, hcyBK296_2, hcyBK296_3, hcyBK296_4, hcyBK296_5, hcyBK296_6, hcyBK296_7, hcyBK296_8, hcyBK296_9, hcyBK296_10⟩, hfyBK296_0, hfyBK296_1, hfyBK296_2, hfyBK296_3, hfyBK296_4, hfyBK296_5, hfyBK296_6, hfyBK296_7, hfyBK296_8, hfyBK296_9, hfyBK296_10⟩ := cells11 BK296.out)))); have p2010 : 0 ≤ (10 : Int) := (by omega); have q2010 : (10 : Int) < ((y321.length : Int) : Int) := of_decide_eq_true (by first | (with_reducible assumption) | assumption); have qi2010 : (10 < y321.length) = True := eq_true (by omega); obtain ⟨go2010, co2010, eo2010, gb2010, gl2010, cl2010, HG2010⟩ := Kd.R_form HO323.out (by omega); (first | cases eo2010 | (injection eo2010 with ea_ en_ ec_; (first | subst ea_ | (injection ea_ with ea_; subst ea_)); subst ec_; clear en_)); have GB2010 := Aside0.mk gb2010; have GG2010 := Aside0.mk HG2010; clear gb2010 gl2010 HG2010; obtain ⟨hx2010_0, hf2010_0⟩ := Kd.R_celln 0 HO323.out (10 : Int) p2010 q2010; (try rw [show ((10 : Int)).toNat = 10 from rfl] at hx2010_0); (try simp only [Nat.reduceMul, Nat.zero_mul, Nat.zero_add, Nat.reduceAdd] at hx2010_0); (try rw [show ((10 : Int)).toNat = 10 from rfl] at hf2010_0); (try simp only [Nat.reduceMul, Nat.zero_mul, Nat.zero_add, Nat.reduceAdd] at hf2010_0); replace p2010 := eq_true p2010; replace q2010 := eq_true q2010; obtain ⟨hy3015_, hz3015_⟩ := Kd.R_celln 0 HO323.out (10 : Int) (by omega) (of_decide_eq_true (by first | (with_reducible assumption) | assumption)); (try simp only [Int.reduceToNat, Int.toNat_zero, Int.toNat_ofNat, Nat.reduceMul, Nat.zero_mul, Nat.zero_add] at hy3015_ hz3015_); (try rw [show ((10 : Int)).toNat = 10 from rfl] at hy3015_); (try rw [show ((10 : Int)).toNat = 10 from rfl] at hz3015_); have HP3015 := Kd.R_putg HO323.out (10 : Int) ((t324 / 256) % 256)) | ((with_reducible refine gate_store (t := 5) (p := 71) rfl ?_); (try (rw [drewN_self w3013]; generalize hq_ : World.drewN w3013 _ = w3013; have n0_ := Aside0.mk (Kd.R_at hq_ HO323.out); have n1_ := Aside0.mk (blk_at hq_ BK296.out); have n2_ := Aside0.mk (below_at hq_ HB.out); clear hq_ HO323 BK296 HB; have HO323 := n0_; have BK296 := n1_; have HB := n2_; clear n0_ n1_ n2_; (try (obtain ⟨⟨hcyBK296_0, hcyBK296_1, hcyBK296_2, hcyBK296_3, hcyBK296_4, hcyBK296_5, hcyBK296_6, hcyBK296_7, hcyBK296_8, hcyBK296_9, hcyBK296_10⟩, hfyBK296_0, hfyBK296_1, hfyBK296_2, hfyBK296_3, hfyBK296_4, hfyBK296_5, hfyBK296_6, hfyBK296_7, hfyBK296_8, hfyBK296_9, hfyBK296_10⟩ := cells11 BK296.out)); (try (obtain ⟨hy3015_, hz3015_⟩ := Kd.R_celln 0 HO323.out (10 : Int) (by omega) (of_decide_eq_true (by first | (with_reducible assumption) | assumption)))); (try (try simp only [Int.reduceToNat, Int.toNat_zero, Int.toNat_ofNat, Nat.reduceMul, Nat.zero_mul, Nat.zero_add] at hy3015_ hz3015_)); (try (try rw [show ((10 : Int)).toNat = 10 from rfl] at hy3015_)); (try (try rw [show ((10 : Int)).toNat = 10 from rfl] at hz3015_)); (try (have HP3015 := Kd.R_putg HO323.out (10 : Int) ((t324 / 256) % 256))))); refine store_event (t := 5) (p := 71) (v := ?_) (w1 := (w3013.setCell ⟨go2010, (10 : Int).toNat, none⟩ (.int .u8 ((t324 / 256) % 256)))) ?hg ?ho ?hn ?hr ?_; (case ho => rfl); (case hg => rfl); (case hn => rfl); (case hr => first | (go_simp; done) | (go_simp; rfl)); intro w3016 hw; have hg : w3013.grownBy w3016 (some go2010) := (by rw [hw]; exact HP3015.2); have hp_ : Kd.R (Kd.int .u8) 5 w3016 w.heap.size (fun _ => True) (.slice (some ⟨go2010, 0, none⟩) y321.length co3014) y325 := (by rw [hw, Ny325.out]; exact HP3015.1); clear HP3015; have n0_ := Aside0.mk (blk_grown (Bh BK296) hg (Kd.R_ne HO323.out BK296.out (by decide))); have n1_ := Aside0.mk (hp_); have n2_ := Aside0.mk ((by rw [hw]; exact below_set (HB.out) GB2010.out : Below w.heap.size w w3016)); clear BK296; clear HO323; clear HB; have BK296 := n0_; have HO323 := n1_; have HB := n2_; clear n0_ n1_ n2_; clear hg hw hp_; have p2012 : 0 ≤ (11 : Int) := (by omega); have q2012 : (11 : Int) < ((y321.length : Int) : Int) := of_decide_eq_true (by first | (with_reducible assumption) | assumption); have qi2012 : (11 < y321.length) = True := eq_true (by omega); obtain ⟨hx2012_0, hf2012_0⟩ := Kd.R_celln 0 HO323.out (11 : Int) p2012 q2012; (try rw [show ((11 : Int)).toNat = 11 from rfl] at hx2012_0); (try simp only [Nat.reduceMul, Nat.zero_mul, Nat.zero_add, Nat.reduceAdd] at hx2012_0); (try rw [show ((11 : Int)).toNat = 11 from rfl] at hf2012_0); (try simp only [Nat.reduceMul, Nat.zero_mul, Nat.zero_add, Nat.reduceAdd] at hf2012_0); replace p2012 := eq_true p2012; replace q2012 := eq_true q2012; obtain ⟨hy3017_, hz3017_⟩ := Kd.R_celln 0 HO323.out (11 : Int) (by omega) (of_decide_eq_true (by first | (with_reducible assumption) | assumption)); (try simp only [Int.reduceToNat, Int.toNat_zero, Int.toNat_ofNat, Nat.reduceMul, Nat.zero_mul, Nat.zero_add] at hy3017_ hz3017_); (try rw [show ((11 : Int)).toNat = 11 from rfl] at hy3017_); (try rw [show ((11 : Int)).toNat = 11 from rfl] at hz3017_); have HP3017 := Kd.R_putg HO323.out (11 : Int) ((t324) % 256)) | ((with_reducible refine gate_store (t := 5) (p := 72) rfl ?_); (try (rw [drewN_self w3016]; generalize hq_ : World.drewN w3016 _ = w3016; have n0_ := Aside0.mk (Kd.R_at hq_ HO323.out); have n1_ := Aside0.mk (blk_at hq_ BK296.out); have n2_ := Aside0.mk (below_at hq_ HB.out); clear hq_ HO323 BK296 HB; have HO323 := n0_; have BK296 := n1_; have HB := n2_; clear n0_ n1_ n2_; (try (obtain ⟨⟨hcyBK296_0, hcyBK296_1, hcyBK296_2, hcyBK296_3, hcyBK296_4, hcyBK296_5, hcyBK296_6, hcyBK296_7, hcyBK296_8, hcyBK296_9, hcyBK296_10⟩, hfyBK296_0, hfyBK296_1, hfyBK296_2, hfyBK296_3, hfyBK296_4, hfyBK296_5, hfyBK296_6, hfyBK296_7, hfyBK296_8, hfyBK296_9, hfyBK296_10⟩ := cells11 BK296.out)); (try (obtain ⟨hy3017_, hz3017_⟩ := Kd.R_celln 0 HO323.out (11 : Int) (by omega) (of_decide_eq_true (by first | (with_reducible assumption) | assumption)))); (try (try simp only [Int.reduceToNat, Int.toNat_zero, Int.toNat_ofNat, Nat.reduceMul, Nat.zero_mul, Nat.zero_add] at hy3017_ hz3017_)); (try (try rw [show ((11 : Int)).toNat = 11 from rfl] at hy3017_)); (try (try rw [show ((11 : Int)).toNat = 11 from rfl] at hz3017_)); (try (have HP3017 := Kd.R_putg HO323.out (11 : Int) ((t324) % 256))))); refine store_event (t := 5) (p := 72) (v := ?_) (w1 := (w3016.setCell ⟨go2010, (11 : Int).toNat, none⟩ (.int .u8 ((t324) % 256)))) ?hg ?ho ?hn ?hr ?_; (case ho => rfl); (case hg => rfl); (case hn => rfl); (case hr => first | (go_simp; done) | (go_simp; rfl)); intro w3018 hw; have hg : w3016.grownBy w3018 (some go2010) := (by rw [hw]; exact HP3017.2); have hp_ : Kd.R (Kd.int .u8) 5 w3018 w.heap.size (fun _ => True) (.slice (some ⟨go2010, 0, none⟩) y321.length co3014) y326 := (by rw [hw, Ny326.out]; exact HP3017.1); clear HP3017; have n0_ := Aside0.mk (blk_grown (Bh BK296) hg (Kd.R_ne HO323.out BK296.out (by decide))); have n1_ := Aside0.mk (hp_); have n2_ := Aside0.mk ((by rw [hw]; exact below_set (HB.out) GB2010.out : Below w.heap.size w w3018)); clear BK296; clear HO323; clear HB; have BK296 := n0_; have HO323 := n1_; have HB := n2_; clear n0_ n1_ n2_; clear hg hw hp_))
 go_ret
 exact ⟨_, by first | rfl | (simp [errW_none, errW_some] <;> rfl) | (simp [*, errW_none, errW_some] <;> rfl), by (with_reducible repeat (first | apply Kd.R_alloc | apply Kd.R_drewN | apply Kd.R_drew)); exact HO323.out, wB⟩
 }
 {
 rw [if_neg c2011] at H
 exact absurd H (by simp)
 }
 }
 {
 rw [if_neg c2009] at H
 exact absurd H (by simp)
 }
 }
 {
 rw [if_neg c2007] at H
 exact absurd H (by simp)
 }
 }
 {
 rw [if_neg c2004] at H
 exact absurd H (by simp)
 }
 }
 )
 }
 )

end Go.Proofs.Ytkfbcmbemihbnaa.PFnExactComplain
