-- Written for this claim by a program of this session (wip/mkprint.py: the print, turned at a few places). Not trusted: Lean checks it.
import Derived.Test.YtnnplkhjmdbmbaaDoorPFnExactShowRoutesx0
namespace Go.Proofs.YtnnplkhjmdbmbaaDoor.PFnExactShowRoutes
open Go.RowKit Go.Proofs.YtnnplkhjmdbmbaaDoorW.PrintWords Go.Proofs.YtnnplkhjmdbmbaaDoorW.PrintLast Go.Proofs.YtnnplkhjmdbmbaaDoorW.PrintMore
attribute [local go_sem] max2_int min2_int max_two min_two max_three min_three max_four min_four   -- for this text's walks alone
set_option linter.unusedVariables false
set_option linter.unusedSimpArgs false

/-! ### laws_szRouteS: function 28 -/
def laws_szRouteS.f (l0 : List (S78)) (a1 : Int) : Option (Int) := if (wrap64 (a1 - (l0.length : Int))) < 0 then (some (-1)) else (some (wrap64 (a1 - (l0.length : Int))))
set_option maxHeartbeats 60000000 in
set_option maxRecDepth 100000 in
theorem laws_szRouteS.calls (A0 : Option Addr) (c0 : Nat) (l0 : List (S78)) (a1 : Int) (r : Int) (w : World) (hr0 : Kd.C k78 w A0 l0.length l0) (hc0 : l0.length ≤ c0) (h : laws_szRouteS.f l0 a1 = some r) :
    Calls Tryd.prog 28 #[.slice A0 l0.length c0, .int .i64 a1] w fun e w' => e = .returned (.int .i64 r) ∧ Drawn0 w w' := by
  have HR0 := Aside0.mk hr0
  have HC0 := Aside0.mk hc0
  clear hr0 hc0
  have H : (if (wrap64 (a1 - (l0.length : Int))) < 0 then (some (-1)) else (some (wrap64 (a1 - (l0.length : Int))))) = some r := h
  clear h
  by_cases c3 : (wrap64 (a1 - (l0.length : Int))) < 0
  · rw [if_pos c3] at H
    have c3b0 : decide ((wrap64 (a1 - (l0.length : Int))) < 0) = true := decide_eq_true c3
    clear c3
    obtain rfl := Option.some.inj H
    go_enter Tryd.func28, Tryd.ntmps28
    go_wp2
    go_ret
    exact ⟨by first | rfl | (simp; done) | (simp [*]; done), by repeat (first | exact Drawn0.refl _ | apply Drawn0.step)⟩
  · rw [if_neg c3] at H
    have c3b0 : decide ((wrap64 (a1 - (l0.length : Int))) < 0) = false := decide_eq_false c3
    clear c3
    obtain rfl := Option.some.inj H
    go_enter Tryd.func28, Tryd.ntmps28
    go_wp2
    go_ret
    exact ⟨by first | rfl | (simp; done) | (simp [*]; done), by repeat (first | exact Drawn0.refl _ | apply Drawn0.step)⟩

/-! ### spec_l01In: function 66 -/
def spec_l01In.f (a0 : Int) (a1 : Int) (a2 : Int) : Option (Bool) := if a0 ≥ a1 then (some (decide (a0 ≤ a2))) else (some false)
set_option maxHeartbeats 60000000 in
set_option maxRecDepth 100000 in
theorem spec_l01In.calls (a0 : Int) (a1 : Int) (a2 : Int) (r : Bool) (w : World) (h : spec_l01In.f a0 a1 a2 = some r) :
    Calls Tryd.prog 66 #[.int .i64 a0, .int .i64 a1, .int .i64 a2] w fun e w' => e = .returned (.bool r) ∧ Drawn0 w w' := by
  have H : (if a0 ≥ a1 then (some (decide (a0 ≤ a2))) else (some false)) = some r := h
  clear h
  by_cases c4 : a0 ≥ a1
  · rw [if_pos c4] at H
    have c4b0 : decide (a1 ≤ a0) = true := decide_eq_true c4
    clear c4
    obtain rfl := Option.some.inj H
    go_enter Tryd.func66, Tryd.ntmps66
    go_wp2
    go_ret
    exact ⟨by first | rfl | (simp; done) | (simp [*]; done), by repeat (first | exact Drawn0.refl _ | apply Drawn0.step)⟩
  · rw [if_neg c4] at H
    have c4b0 : decide (a1 ≤ a0) = false := decide_eq_false c4
    clear c4
    obtain rfl := Option.some.inj H
    go_enter Tryd.func66, Tryd.ntmps66
    go_wp2
    go_ret
    exact ⟨by first | rfl | (simp; done) | (simp [*]; done), by repeat (first | exact Drawn0.refl _ | apply Drawn0.step)⟩

/-! ### spec_l02AddrOK: function 49 -/
def spec_l02AddrOK.f (a0 : Int) : Option (Bool) := (spec_l01In.f a0 0 4294967295).bind fun t101 => (some t101)
set_option maxHeartbeats 60000000 in
set_option maxRecDepth 100000 in
theorem spec_l02AddrOK.calls (a0 : Int) (r : Bool) (w : World) (h : spec_l02AddrOK.f a0 = some r) :
    Calls Tryd.prog 49 #[.int .i64 a0] w fun e w' => e = .returned (.bool r) ∧ Drawn0 w w' := by
  have H : ((spec_l01In.f a0 0 4294967295).bind fun t101 => (some t101)) = some r := h
  clear h
  replace H := Option.bind_eq_some_iff.mp H
  obtain ⟨t101, A20, H⟩ := H
  replace H : (some t101) = some r := H
  have A2 := Aside0.mk A20
  clear A20
  obtain rfl := Option.some.inj H
  go_enter Tryd.func49, Tryd.ntmps49
  go_wp2_with (first | ((with_reducible refine gate_callee (f := 66) rfl ?_); refine goesL_ (some 4) rfl rfl Tryd.func66 (by kernel_rfl) rfl #[.int .i64 a0, .int .i64 0, .int .i64 4294967295] rfl wT ?_; (with_reducible refine (spec_l01In.calls a0 0 4294967295 t101 _ A2.out).mono ?_); rintro e w' ⟨rfl, ⟨nd, rfl⟩⟩; refine ⟨_, rfl, ?_⟩))
  go_ret
  exact ⟨by first | rfl | (simp; done) | (simp [*]; done), by repeat (first | exact Drawn0.refl _ | apply Drawn0.step)⟩

/-! ### spec_l02Dec: function 50 -/
def spec_l02Dec.f : Nat → Int → Option (ByteArray)
  | 0, _ => none
  | k + 1, a0 => if a0 < 10 then (some (strOfNums (([(wrap64 (48 + a0)) % 256] : List Int)))) else ((spec_l02Dec.f k (wrap64 (Int.tdiv a0 10))).bind fun t105 => ((some (([(wrap64 (48 + (Int.tmod a0 10))) % 256] : List Int) : List Int)).bind fun y106 => (if t105.size + (strOfNums y106).size ≤ 9223372036854775807 then (some (t105 ++ (strOfNums y106))) else (none))))
theorem spec_l02Dec.mono_l : ∀ k, (∀ y0, LeO (spec_l02Dec.f k y0) (spec_l02Dec.f (k + 1) y0))
  | 0 => fun _ r h => by simp [spec_l02Dec.f] at h
  | k + 1 => by
    have ih0 := spec_l02Dec.mono_l k
    · intro y0
      unfold spec_l02Dec.f
      repeat' first
      | (with_reducible exact ih0 _)
      | (with_reducible exact LeO.refl _)
      | (with_reducible exact LeO.none _)
      | (with_reducible refine LeO.ite ?_ ?_)
      | (with_reducible refine LeO.bind ?_ (fun _ => ?_))
      | exact ih0 _
      | exact LeO.none _
      | refine LeO.ite ?_ ?_
      | refine LeO.bind ?_ (fun _ => ?_)
theorem spec_l02Dec.mono : ∀ a0 k, LeO (spec_l02Dec.f k a0) (spec_l02Dec.f (k + 1) a0) := by
 intro a0 k
 have ih0 := spec_l02Dec.mono_l k
 exact ih0 a0
def spec_l02Dec.T3 : Bool × List (List Nat × List Nat) := (true, [([], []), ([0], [0]), ([1], [1]), ([], []), ([3], [3]), ([4], [4]), ([5], [5]), ([6], [6]), ([7], [7]), ([2, 8], [2, 8]), ([9, 2, 0, 1, 2, 3, 4, 5, 6, 7, 8, 9], [9])])
def spec_l02Dec.B3 : List Nat := [0, 1, 3, 0, 8, 24, 56, 120, 248, 511, 1023]
theorem spec_l02Dec.tab3 : rtab .any (opsOf Tryd.f50 3) = spec_l02Dec.T3 := by kernel_rfl
theorem spec_l02Dec.bits3 : waitsOk spec_l02Dec.T3.2 spec_l02Dec.B3 = true := by kernel_rfl
set_option maxHeartbeats 60000000 in
set_option maxRecDepth 100000 in
theorem spec_l02Dec.calls (k : Nat) : ∀ (a0 : Int) (r : ByteArray) (w : World) (h : spec_l02Dec.f k a0 = some r),
 Calls Tryd.prog 50 #[.int .i64 a0] w fun e w' => e = .returned (.string r) ∧ Below w.heap.size w w' := by
 induction k using Nat.strongRecOn with
 | _ k ih =>
 intro a0 r w h
 cases k with
 | zero => exact absurd h (by simp [spec_l02Dec.f])
 | succ k =>
 simp only [spec_l02Dec.f] at h
 have HB := Aside0.mk (Below.refl w.heap.size w)
 have H : (if a0 < 10 then (some (strOfNums (([(wrap64 (48 + a0)) % 256] : List Int)))) else ((spec_l02Dec.f k (wrap64 (Int.tdiv a0 10))).bind fun t105 => ((some (([(wrap64 (48 + (Int.tmod a0 10))) % 256] : List Int) : List Int)).bind fun y106 => (if t105.size + (strOfNums y106).size ≤ 9223372036854775807 then (some (t105 ++ (strOfNums y106))) else (none))))) = some r := h
 clear h
 by_cases c2 : a0 < 10
 {
 rw [if_pos c2] at H
 have c2b0 : decide (a0 < 10) = true := decide_eq_true c2
 clear c2
 obtain ⟨y102, hy102⟩ : ∃ y_ : List Int, y_ = (([(wrap64 (48 + a0)) % 256] : List Int)) := ⟨_, rfl⟩
 replace H : (some (strOfNums y102)) = some r := by first | (rw [hy102]; with_reducible exact H) | (have H2_ := (Option.bind_some _ _).symm.trans H; rw [hy102]; with_reducible exact H2_) | (have H2_ := (Option.bind_some _ _).symm.trans H; with_reducible exact H2_) | with_reducible exact H | (rw [hy102]; exact H) | exact H
 have Ny102 := Aside0.mk hy102
 clear hy102
 obtain rfl := Option.some.inj H
 go_enter Tryd.func50, Tryd.ntmps50
 go_wp2_with (first | ((with_reducible refine gate_dst (N := 8) rfl ?_); refine Kd.R_lit (Kd.int .u8) _ 5 ?hg (N := 8) ?hd (xs := ([(wrap64 (48 + a0)) % 256] : List Int)) (inner := [.int .u8 ((wrap64 (48 + a0)) % 256)]) (ok := fun _ => True) (okp := fun _ => True) ?hr ?hp (fun _ hk => hk) trivial (Below.refl _ _) (Nat.le_refl _) (by simp) ?_; (case hd => rfl); (case hg => rfl); (case hr => first | (go_simp; done) | (go_simp; rfl)); (case hp => exact (Reps.one (show Kd.M (Kd.int .u8) _ _ _ ((wrap64 (48 + a0)) % 256) [.int .u8 ((wrap64 (48 + a0)) % 256)] from rfl) (Reps.none _ _))); intro v103 w1001 ho1002 hb hg_ hnew_; clear hg_ hnew_; (first | rw [← Ny102.out] at ho1002 | (simp only [Int.reduceToNat] at ho1002; rw [← Ny102.out] at ho1002)); have n0_ := Aside0.mk (Kd.R_lower ho1002 (below_size wB)); have n1_ := Aside0.mk (below_step wB hb); clear HB; have HO104 := n0_; have HB := n1_; clear n0_ n1_; clear hb ho1002; have hcv1003 := own_string (P := Tryd.prog) Tryd.underlying22 Tryd.underlying5 Tryd.underlying9 (Kd.own_of_R HO104.out)))
 go_ret
 exact ⟨by first | rfl | (simp [errW_none, errW_some] <;> rfl) | (simp [*, errW_none, errW_some] <;> rfl), wB⟩
 }
 {
 rw [if_neg c2] at H
 have c2b0 : decide (a0 < 10) = false := decide_eq_false c2
 clear c2
 replace H := Option.bind_eq_some_iff.mp H
 obtain ⟨t105, A30, H⟩ := H
 replace H : ((some (([(wrap64 (48 + (Int.tmod a0 10))) % 256] : List Int) : List Int)).bind fun y106 => (if t105.size + (strOfNums y106).size ≤ 9223372036854775807 then (some (t105 ++ (strOfNums y106))) else (none))) = some r := H
 have A3 := Aside0.mk A30
 clear A30
 obtain ⟨y106, hy106⟩ : ∃ y_ : List Int, y_ = (([(wrap64 (48 + (Int.tmod a0 10))) % 256] : List Int)) := ⟨_, rfl⟩
 replace H : (if t105.size + (strOfNums y106).size ≤ 9223372036854775807 then (some (t105 ++ (strOfNums y106))) else (none)) = some r := by first | (rw [hy106]; with_reducible exact H) | (have H2_ := (Option.bind_some _ _).symm.trans H; rw [hy106]; with_reducible exact H2_) | (have H2_ := (Option.bind_some _ _).symm.trans H; with_reducible exact H2_) | with_reducible exact H | (rw [hy106]; exact H) | exact H
 have Ny106 := Aside0.mk hy106
 clear hy106
 by_cases c4 : t105.size + (strOfNums y106).size ≤ 9223372036854775807
 {
 rw [if_pos c4] at H
 have c4b0 := eq_true c4
 have c4b1 : decide (t105.size + (strOfNums y106).size ≤ 9223372036854775807) = true := decide_eq_true c4
 try have c4b2 : (9223372036854775807 < t105.size + (strOfNums y106).size) = False := eq_false (Nat.not_lt.2 c4)
 obtain rfl := Option.some.inj H
 go_enter Tryd.func50, Tryd.ntmps50
 try go_wp2
 have n0_ := Aside0.mk (below_drew1 HB.out)
 clear HB
 have HB := n0_
 clear n0_
 refine start_ (n := 11) (S := fun w' => True) (ds := []) #[false, false, false, false, false, false, false, false, false, false, false] (by kernel_rfl) rfl rfl trivial (fun hHeld => ?_); refine with_tabW spec_l02Dec.tab3 spec_l02Dec.bits3 (fun HT_ HW_ => ?_)
 generalize w.drew = w1001 at HB hHeld ⊢
 refine pure_ (i := 0) (N := some 10) (v := ?_) (a' := ?_) #[true, false, false, false, false, false, false, false, false, false, false] rfl rfl (any_of HT_.out (by kernel_rfl)) (fun _ _ _ h => h) (Or.inl ⟨by rfl, ?_⟩) ?_ ?_
 rotate_left
 {
 intro w'
 go_simp
 with_reducible rfl
 }
 rotate_left
 {
 simp only [Act.put, List.setIfInBounds_toArray, List.set_cons_zero, List.set_cons_succ, i64_w, i32_w]
 rfl
 }
 refine pure_ (i := 1) (N := some 11) (v := ?_) (a' := ?_) #[true, true, false, false, false, false, false, false, false, false, false] rfl rfl (any_of HT_.out (by kernel_rfl)) (fun _ _ _ h => h) (Or.inl ⟨by rfl, ?_⟩) ?_ ?_
 rotate_left
 {
 intro w'
 go_simp
 with_reducible rfl
 }
 rotate_left
 {
 simp only [Act.put, List.setIfInBounds_toArray, List.set_cons_zero, List.set_cons_succ, i64_w, i32_w]
 rfl
 }
 refine pure_ (i := 3) (N := some 13) (v := ?_) (a' := ?_) #[true, true, false, true, false, false, false, false, false, false, false] rfl rfl (any_of HT_.out (by kernel_rfl)) (fun _ _ _ h => h) (Or.inl ⟨by rfl, ?_⟩) ?_ ?_
 rotate_left
 {
 intro w'
 go_simp
 with_reducible rfl
 }
 rotate_left
 {
 simp only [Act.put, List.setIfInBounds_toArray, List.set_cons_zero, List.set_cons_succ, i64_w, i32_w]
 rfl
 }
 refine pure_ (i := 4) (N := some 14) (v := ?_) (a' := ?_) #[true, true, false, true, true, false, false, false, false, false, false] rfl rfl (any_of HT_.out (by kernel_rfl)) (fun _ _ _ h => h) (Or.inl ⟨by rfl, ?_⟩) ?_ ?_
 rotate_left
 {
 intro w'
 go_simp
 with_reducible rfl
 }
 rotate_left
 {
 simp only [Act.put, List.setIfInBounds_toArray, List.set_cons_zero, List.set_cons_succ, i64_w, i32_w]
 rfl
 }
 refine pure_ (i := 5) (N := some 15) (v := ?_) (a' := ?_) #[true, true, false, true, true, true, false, false, false, false, false] rfl rfl (any_of HT_.out (by kernel_rfl)) (fun _ _ _ h => h) (Or.inl ⟨by rfl, ?_⟩) ?_ ?_
 rotate_left
 {
 intro w'
 go_simp
 with_reducible rfl
 }
 rotate_left
 {
 simp only [Act.put, List.setIfInBounds_toArray, List.set_cons_zero, List.set_cons_succ, i64_w, i32_w]
 rfl
 }
 refine pure_ (i := 6) (N := some 16) (v := ?_) (a' := ?_) #[true, true, false, true, true, true, true, false, false, false, false] rfl rfl (any_of HT_.out (by kernel_rfl)) (fun _ _ _ h => h) (Or.inl ⟨by rfl, ?_⟩) ?_ ?_
 rotate_left
 {
 intro w'
 go_simp
 with_reducible rfl
 }
 rotate_left
 {
 simp only [Act.put, List.setIfInBounds_toArray, List.set_cons_zero, List.set_cons_succ, i64_w, i32_w]
 rfl
 }
 refine join_ (σ := Value) 2 #[true, true, true, true, true, true, true, true, true, false, false] (fun s_ => [(12, .string t105), (17, s_), (18, .string (strOfNums y106))]) (fun s_ w' => (Kd.R (Kd.int .u8) 5 w' w.heap.size (fun _ => True) s_ y106) ∧ (Below w.heap.size w w')) ?_ ?_
 rotate_left
 {
 intro hCont
 refine two_ (i := 2) (j := 7) (Ni := some 12) (Nj := some 17) #[true, true, true, true, true, true, true, false, false, false, false] #[true, true, false, true, true, true, true, true, false, false, false] rfl rfl rfl rfl (two_of HT_.out (by kernel_rfl)) (by decide) (by decide) (fun K hK => ?_) (fun K hK => ?_)
 {
 skip
 refine goes_ Tryd.func50 (by kernel_rfl) rfl #[.int .i64 (wrap64 (Int.tdiv a0 10))] (by rfl) rfl rfl wT ?_
 with_reducible refine (ih k (by omega) (wrap64 (Int.tdiv a0 10)) t105 _ A3.out).mono ?_
 rintro e w1002 ⟨rfl, hb⟩
 refine ⟨_, rfl, ?_⟩
 have n0_ := Aside0.mk (below_step wB hb)
 clear HB
 have HB := n0_
 clear n0_
 (try clear hb)
 (try clear hb2)
 (try clear hk)
 (try clear hi)
 refine hK.out _ _ trivial (fun hHeld => ?_)
 clear hK K
 refine norm_ (a' := ?_) ?_ ?_
 rotate_left
 {
 show Act.put _ (some 12) _ = _
 simp only [Act.put, List.setIfInBounds_toArray, List.set_cons_zero, List.set_cons_succ, i64_w, i32_w]
 rfl
 }
 refine one_ (i := 7) (N := some 17) #[true, true, true, true, true, true, true, true, false, false, false] rfl rfl (one_of HT_.out (by kernel_rfl)) (by decide) (fun K hK => ?_)
 refine Kd.R_lit_step (Kd.int .u8) _ 5 ?hg (N := 17) ?hd (xs := ([(wrap64 (48 + (Int.tmod a0 10))) % 256] : List Int)) (inner := [.int .u8 ((wrap64 (48 + (Int.tmod a0 10))) % 256)]) (ok := fun _ => True) (okp := fun _ => True) ?hr ?hp (fun _ hk => hk) trivial (Below.refl _ _) (Nat.le_refl _) (by simp) ?_; (case hd => rfl); (case hg => rfl); (case hr => first | (go_simp; done) | (go_simp; rfl)); (case hp => exact (Reps.one (show Kd.M (Kd.int .u8) _ _ _ ((wrap64 (48 + (Int.tmod a0 10))) % 256) [.int .u8 ((wrap64 (48 + (Int.tmod a0 10))) % 256)] from rfl) (Reps.none _ _)))
 intro v107 w1003 ho1004 hb hg_ hnew_
 clear hg_ hnew_
 (first | rw [← Ny106.out] at ho1004 | (simp only [Int.reduceToNat] at ho1004; rw [← Ny106.out] at ho1004))
 have n0_ := Aside0.mk (Kd.R_lower ho1004 (below_size wB))
 have n1_ := Aside0.mk (below_step wB hb)
 clear HB
 have HO108 := n0_
 have HB := n1_
 clear n0_ n1_
 clear hb ho1004
 refine hK.out _ _ trivial (fun hHeld => ?_)
 clear hK K
 refine norm_ (a' := ?_) ?_ ?_
 rotate_left
 {
 show Act.put _ (some 17) _ = _
 simp only [Act.put, List.setIfInBounds_toArray, List.set_cons_zero, List.set_cons_succ, i64_w, i32_w]
 rfl
 }
 refine one_ (i := 8) (N := some 18) #[true, true, true, true, true, true, true, true, true, false, false] rfl rfl (one_of HT_.out (by kernel_rfl)) (by decide) (fun K hK => ?_)
 have hcv1005 := own_string (P := Tryd.prog) Tryd.underlying22 Tryd.underlying5 Tryd.underlying9 (Kd.own_of_R HO108.out)
 refine value_ (w1 := ?_) (v := ?_) (by rfl) rfl ?_ ?_
 rotate_left 2
 {
 go_simp
 constructor
 {
 rfl
 }
 {
 rfl
 }
 }
 clear hcv1005
 refine hK.out _ _ trivial (fun hHeld => ?_)
 clear hK K
 refine norm_ (a' := ?_) ?_ ?_
 rotate_left
 {
 show Act.put _ (some 18) _ = _
 simp only [Act.put, List.setIfInBounds_toArray, List.set_cons_zero, List.set_cons_succ, i64_w, i32_w]
 rfl
 }
 exact norm_ (by simp only [putAll, Act.put, List.setIfInBounds_toArray, List.set_cons_zero, List.set_cons_succ]) (hCont (v107) _ ⟨(Rh HO108), wB⟩)
 }
 {
 skip
 refine Kd.R_lit_step (Kd.int .u8) _ 5 ?hg (N := 17) ?hd (xs := ([(wrap64 (48 + (Int.tmod a0 10))) % 256] : List Int)) (inner := [.int .u8 ((wrap64 (48 + (Int.tmod a0 10))) % 256)]) (ok := fun _ => True) (okp := fun _ => True) ?hr ?hp (fun _ hk => hk) trivial (Below.refl _ _) (Nat.le_refl _) (by simp) ?_; (case hd => rfl); (case hg => rfl); (case hr => first | (go_simp; done) | (go_simp; rfl)); (case hp => exact (Reps.one (show Kd.M (Kd.int .u8) _ _ _ ((wrap64 (48 + (Int.tmod a0 10))) % 256) [.int .u8 ((wrap64 (48 + (Int.tmod a0 10))) % 256)] from rfl) (Reps.none _ _)))
 intro v107 w1002 ho1003 hb hg_ hnew_
 clear hg_ hnew_
 (first | rw [← Ny106.out] at ho1003 | (simp only [Int.reduceToNat] at ho1003; rw [← Ny106.out] at ho1003))
 have n0_ := Aside0.mk (Kd.R_lower ho1003 (below_size wB))
 have n1_ := Aside0.mk (below_step wB hb)
 clear HB
 have HO108 := n0_
 have HB := n1_
 clear n0_ n1_
 clear hb ho1003
 refine hK.out _ _ trivial (fun hHeld => ?_)
 clear hK K
 refine norm_ (a' := ?_) ?_ ?_
 rotate_left
 {
 show Act.put _ (some 17) _ = _
 simp only [Act.put, List.setIfInBounds_toArray, List.set_cons_zero, List.set_cons_succ, i64_w, i32_w]
 rfl
 }
 refine two_ (i := 2) (j := 8) (Ni := some 12) (Nj := some 18) #[true, true, true, true, true, true, true, true, false, false, false] #[true, true, false, true, true, true, true, true, true, false, false] rfl rfl rfl rfl (two_of HT_.out (by kernel_rfl)) (by decide) (by decide) (fun K hK => ?_) (fun K hK => ?_)
 {
 skip
 refine goes_ Tryd.func50 (by kernel_rfl) rfl #[.int .i64 (wrap64 (Int.tdiv a0 10))] (by rfl) rfl rfl wT ?_
 with_reducible refine (ih k (by omega) (wrap64 (Int.tdiv a0 10)) t105 _ A3.out).mono ?_
 rintro e w1004 ⟨rfl, hb⟩
 refine ⟨_, rfl, ?_⟩
 have n0_ := Aside0.mk (Kd.R_below (Rh HO108) hb)
 have n1_ := Aside0.mk (below_step wB hb)
 clear HO108
 clear HB
 have HO108 := n0_
 have HB := n1_
 clear n0_ n1_
 (try clear hb)
 (try clear hb2)
 (try clear hk)
 (try clear hi)
 refine hK.out _ _ trivial (fun hHeld => ?_)
 clear hK K
 refine norm_ (a' := ?_) ?_ ?_
 rotate_left
 {
 show Act.put _ (some 12) _ = _
 simp only [Act.put, List.setIfInBounds_toArray, List.set_cons_zero, List.set_cons_succ, i64_w, i32_w]
 rfl
 }
 refine one_ (i := 8) (N := some 18) #[true, true, true, true, true, true, true, true, true, false, false] rfl rfl (one_of HT_.out (by kernel_rfl)) (by decide) (fun K hK => ?_)
 have hcv1005 := own_string (P := Tryd.prog) Tryd.underlying22 Tryd.underlying5 Tryd.underlying9 (Kd.own_of_R HO108.out)
 refine value_ (w1 := ?_) (v := ?_) (by rfl) rfl ?_ ?_
 rotate_left 2
 {
 go_simp
 constructor
 {
 rfl
 }
 {
 rfl
 }
 }
 clear hcv1005
 refine hK.out _ _ trivial (fun hHeld => ?_)
 clear hK K
 refine norm_ (a' := ?_) ?_ ?_
 rotate_left
 {
 show Act.put _ (some 18) _ = _
 simp only [Act.put, List.setIfInBounds_toArray, List.set_cons_zero, List.set_cons_succ, i64_w, i32_w]
 rfl
 }
 exact norm_ (by simp only [putAll, Act.put, List.setIfInBounds_toArray, List.set_cons_zero, List.set_cons_succ]) (hCont (v107) _ ⟨(Rh HO108), wB⟩)
 }
 {
 skip
 have hcv1004 := own_string (P := Tryd.prog) Tryd.underlying22 Tryd.underlying5 Tryd.underlying9 (Kd.own_of_R HO108.out)
 refine value_ (w1 := ?_) (v := ?_) (by rfl) rfl ?_ ?_
 rotate_left 2
 {
 go_simp
 constructor
 {
 rfl
 }
 {
 rfl
 }
 }
 clear hcv1004
 refine hK.out _ _ trivial (fun hHeld => ?_)
 clear hK K
 refine norm_ (a' := ?_) ?_ ?_
 rotate_left
 {
 show Act.put _ (some 18) _ = _
 simp only [Act.put, List.setIfInBounds_toArray, List.set_cons_zero, List.set_cons_succ, i64_w, i32_w]
 rfl
 }
 refine one_ (i := 2) (N := some 12) #[true, true, true, true, true, true, true, true, true, false, false] rfl rfl (one_of HT_.out (by kernel_rfl)) (by decide) (fun K hK => ?_)
 refine goes_ Tryd.func50 (by kernel_rfl) rfl #[.int .i64 (wrap64 (Int.tdiv a0 10))] (by rfl) rfl rfl wT ?_
 with_reducible refine (ih k (by omega) (wrap64 (Int.tdiv a0 10)) t105 _ A3.out).mono ?_
 rintro e w1005 ⟨rfl, hb⟩
 refine ⟨_, rfl, ?_⟩
 have n0_ := Aside0.mk (Kd.R_below (Rh HO108) hb)
 have n1_ := Aside0.mk (below_step wB hb)
 clear HO108
 clear HB
 have HO108 := n0_
 have HB := n1_
 clear n0_ n1_
 (try clear hb)
 (try clear hb2)
 (try clear hk)
 (try clear hi)
 refine hK.out _ _ trivial (fun hHeld => ?_)
 clear hK K
 refine norm_ (a' := ?_) ?_ ?_
 rotate_left
 {
 show Act.put _ (some 12) _ = _
 simp only [Act.put, List.setIfInBounds_toArray, List.set_cons_zero, List.set_cons_succ, i64_w, i32_w]
 rfl
 }
 exact norm_ (by simp only [putAll, Act.put, List.setIfInBounds_toArray, List.set_cons_zero, List.set_cons_succ]) (hCont (v107) _ ⟨(Rh HO108), wB⟩)
 }
 }
 }
 rintro v107 w1006 ⟨h0_, h1_⟩
 have n0_ : Aside0 (Kd.R (Kd.int .u8) 5 w1006 w.heap.size (fun _ => True) v107 y106) := ⟨h0_⟩
 have n1_ : Aside0 (Below w.heap.size w w1006) := ⟨h1_⟩
 clear HB
 clear h0_ h1_
 have HO108 := n0_
 have HB := n1_
 clear n0_ n1_
 have hHeld := trivial
 refine norm_ (a' := ?_) ?_ ?_
 rotate_left
 {
 simp only [putAll, Act.put, List.setIfInBounds_toArray, List.set_cons_zero, List.set_cons_succ]
 rfl
 }
 refine pure_ (i := 9) (N := some 19) (v := ?_) (a' := ?_) #[true, true, true, true, true, true, true, true, true, true, false] rfl rfl (any_of HT_.out (by kernel_rfl)) (fun _ _ _ h => h) (Or.inl ⟨by rfl, ?_⟩) ?_ ?_
 rotate_left
 {
 intro w'
 go_simp
 with_reducible rfl
 }
 rotate_left
 {
 simp only [Act.put, List.setIfInBounds_toArray, List.set_cons_zero, List.set_cons_succ, i64_w, i32_w]
 rfl
 }
 refine pure_ (i := 10) (N := some 2) (v := ?_) (a' := ?_) #[true, true, true, true, true, true, true, true, true, true, true] rfl rfl (any_of HT_.out (by kernel_rfl)) (fun _ _ _ h => h) (Or.inl ⟨by rfl, ?_⟩) ?_ ?_
 rotate_left
 {
 intro w'
 go_simp
 with_reducible rfl
 }
 rotate_left
 {
 simp only [Act.put, List.setIfInBounds_toArray, List.set_cons_zero, List.set_cons_succ, i64_w, i32_w]
 rfl
 }
 refine done_ (done_of HT_.out (by kernel_rfl)) ?_
 try go_wp2
 go_ret
 exact ⟨by first | rfl | (simp [errW_none, errW_some] <;> rfl) | (simp [*, errW_none, errW_some] <;> rfl), wB⟩
 }
 {
 rw [if_neg c4] at H
 exact absurd H (by simp)
 }
 }

/-! ### spec_ShowAddr: function 22 -/
def spec_ShowAddr.f (k : Nat) (a0 : Int) : Option (ByteArray × Int) := (spec_l02AddrOK.f a0).bind fun t109 => (if t109 = true then ((spec_l02Dec.f k (a0 / 16777216)).bind fun t110 => (if t110.size + 1 ≤ 9223372036854775807 then ((spec_l02Dec.f k (Go.bits .and .i64 (a0 / 65536) 255)).bind fun t111 => (if (t110 ++ (⟨#[46]⟩ : ByteArray)).size + t111.size ≤ 9223372036854775807 then (if ((t110 ++ (⟨#[46]⟩ : ByteArray)) ++ t111).size + 1 ≤ 9223372036854775807 then ((spec_l02Dec.f k (Go.bits .and .i64 (a0 / 256) 255)).bind fun t112 => (if (((t110 ++ (⟨#[46]⟩ : ByteArray)) ++ t111) ++ (⟨#[46]⟩ : ByteArray)).size + t112.size ≤ 9223372036854775807 then (if ((((t110 ++ (⟨#[46]⟩ : ByteArray)) ++ t111) ++ (⟨#[46]⟩ : ByteArray)) ++ t112).size + 1 ≤ 9223372036854775807 then ((spec_l02Dec.f k (Go.bits .and .i64 a0 255)).bind fun t113 => (if (((((t110 ++ (⟨#[46]⟩ : ByteArray)) ++ t111) ++ (⟨#[46]⟩ : ByteArray)) ++ t112) ++ (⟨#[46]⟩ : ByteArray)).size + t113.size ≤ 9223372036854775807 then (some ((((((t110 ++ (⟨#[46]⟩ : ByteArray)) ++ t111) ++ (⟨#[46]⟩ : ByteArray)) ++ t112) ++ (⟨#[46]⟩ : ByteArray)) ++ t113, 0)) else (none))) else (none)) else (none))) else (none)) else (none))) else (none))) else (some ((⟨#[]⟩ : ByteArray), 1)))
theorem spec_ShowAddr.mono : ∀ a0 k, LeO (spec_ShowAddr.f k a0) (spec_ShowAddr.f (k + 1) a0) := by
  intro a0 k
  unfold spec_ShowAddr.f
  repeat' first
      | (with_reducible exact spec_l02Dec.mono _ _)
      | (with_reducible exact LeO.refl _)
      | (with_reducible exact LeO.none _)
      | (with_reducible refine LeO.ite ?_ ?_)
      | (with_reducible refine LeO.bind ?_ (fun _ => ?_))
      | exact spec_l02Dec.mono _ _
      | exact LeO.none _
      | refine LeO.ite ?_ ?_
      | refine LeO.bind ?_ (fun _ => ?_)
set_option maxHeartbeats 60000000 in
set_option maxRecDepth 100000 in
theorem spec_ShowAddr.calls (k : Nat) (a0 : Int) (r1 : ByteArray) (r2 : Int) (w : World) (h : spec_ShowAddr.f k a0 = some (r1, r2)) :
    Calls Tryd.prog 22 #[.int .i64 a0] w fun e w' => e = .returned (.tuple #[.string r1, .int .i64 r2]) ∧ Below w.heap.size w w' := by
  have HB := Aside0.mk (Below.refl w.heap.size w)
  have H : ((spec_l02AddrOK.f a0).bind fun t109 => (if t109 = true then ((spec_l02Dec.f k (a0 / 16777216)).bind fun t110 => (if t110.size + 1 ≤ 9223372036854775807 then ((spec_l02Dec.f k (Go.bits .and .i64 (a0 / 65536) 255)).bind fun t111 => (if (t110 ++ (⟨#[46]⟩ : ByteArray)).size + t111.size ≤ 9223372036854775807 then (if ((t110 ++ (⟨#[46]⟩ : ByteArray)) ++ t111).size + 1 ≤ 9223372036854775807 then ((spec_l02Dec.f k (Go.bits .and .i64 (a0 / 256) 255)).bind fun t112 => (if (((t110 ++ (⟨#[46]⟩ : ByteArray)) ++ t111) ++ (⟨#[46]⟩ : ByteArray)).size + t112.size ≤ 9223372036854775807 then (if ((((t110 ++ (⟨#[46]⟩ : ByteArray)) ++ t111) ++ (⟨#[46]⟩ : ByteArray)) ++ t112).size + 1 ≤ 9223372036854775807 then ((spec_l02Dec.f k (Go.bits .and .i64 a0 255)).bind fun t113 => (if (((((t110 ++ (⟨#[46]⟩ : ByteArray)) ++ t111) ++ (⟨#[46]⟩ : ByteArray)) ++ t112) ++ (⟨#[46]⟩ : ByteArray)).size + t113.size ≤ 9223372036854775807 then (some ((((((t110 ++ (⟨#[46]⟩ : ByteArray)) ++ t111) ++ (⟨#[46]⟩ : ByteArray)) ++ t112) ++ (⟨#[46]⟩ : ByteArray)) ++ t113, 0)) else (none))) else (none)) else (none))) else (none)) else (none))) else (none))) else (some ((⟨#[]⟩ : ByteArray), 1)))) = some (r1, r2) := h
  clear h
  replace H := Option.bind_eq_some_iff.mp H
  obtain ⟨t109, A20, H⟩ := H
  replace H : (if t109 = true then ((spec_l02Dec.f k (a0 / 16777216)).bind fun t110 => (if t110.size + 1 ≤ 9223372036854775807 then ((spec_l02Dec.f k (Go.bits .and .i64 (a0 / 65536) 255)).bind fun t111 => (if (t110 ++ (⟨#[46]⟩ : ByteArray)).size + t111.size ≤ 9223372036854775807 then (if ((t110 ++ (⟨#[46]⟩ : ByteArray)) ++ t111).size + 1 ≤ 9223372036854775807 then ((spec_l02Dec.f k (Go.bits .and .i64 (a0 / 256) 255)).bind fun t112 => (if (((t110 ++ (⟨#[46]⟩ : ByteArray)) ++ t111) ++ (⟨#[46]⟩ : ByteArray)).size + t112.size ≤ 9223372036854775807 then (if ((((t110 ++ (⟨#[46]⟩ : ByteArray)) ++ t111) ++ (⟨#[46]⟩ : ByteArray)) ++ t112).size + 1 ≤ 9223372036854775807 then ((spec_l02Dec.f k (Go.bits .and .i64 a0 255)).bind fun t113 => (if (((((t110 ++ (⟨#[46]⟩ : ByteArray)) ++ t111) ++ (⟨#[46]⟩ : ByteArray)) ++ t112) ++ (⟨#[46]⟩ : ByteArray)).size + t113.size ≤ 9223372036854775807 then (some ((((((t110 ++ (⟨#[46]⟩ : ByteArray)) ++ t111) ++ (⟨#[46]⟩ : ByteArray)) ++ t112) ++ (⟨#[46]⟩ : ByteArray)) ++ t113, 0)) else (none))) else (none)) else (none))) else (none)) else (none))) else (none))) else (some ((⟨#[]⟩ : ByteArray), 1))) = some (r1, r2) := H
  have A2 := Aside0.mk A20
  clear A20
  by_cases c3 : t109 = true
  · subst c3
    have H1 : ((spec_l02Dec.f k (a0 / 16777216)).bind fun t110 => (if t110.size + 1 ≤ 9223372036854775807 then ((spec_l02Dec.f k (Go.bits .and .i64 (a0 / 65536) 255)).bind fun t111 => (if (t110 ++ (⟨#[46]⟩ : ByteArray)).size + t111.size ≤ 9223372036854775807 then (if ((t110 ++ (⟨#[46]⟩ : ByteArray)) ++ t111).size + 1 ≤ 9223372036854775807 then ((spec_l02Dec.f k (Go.bits .and .i64 (a0 / 256) 255)).bind fun t112 => (if (((t110 ++ (⟨#[46]⟩ : ByteArray)) ++ t111) ++ (⟨#[46]⟩ : ByteArray)).size + t112.size ≤ 9223372036854775807 then (if ((((t110 ++ (⟨#[46]⟩ : ByteArray)) ++ t111) ++ (⟨#[46]⟩ : ByteArray)) ++ t112).size + 1 ≤ 9223372036854775807 then ((spec_l02Dec.f k (Go.bits .and .i64 a0 255)).bind fun t113 => (if (((((t110 ++ (⟨#[46]⟩ : ByteArray)) ++ t111) ++ (⟨#[46]⟩ : ByteArray)) ++ t112) ++ (⟨#[46]⟩ : ByteArray)).size + t113.size ≤ 9223372036854775807 then (some ((((((t110 ++ (⟨#[46]⟩ : ByteArray)) ++ t111) ++ (⟨#[46]⟩ : ByteArray)) ++ t112) ++ (⟨#[46]⟩ : ByteArray)) ++ t113, 0)) else (none))) else (none)) else (none))) else (none)) else (none))) else (none))) = some (r1, r2) := by rw [if_pos rfl] at H; exact H
    clear H
    have H := H1
    clear H1
    replace H := Option.bind_eq_some_iff.mp H
    obtain ⟨t110, A40, H⟩ := H
    replace H : (if t110.size + 1 ≤ 9223372036854775807 then ((spec_l02Dec.f k (Go.bits .and .i64 (a0 / 65536) 255)).bind fun t111 => (if (t110 ++ (⟨#[46]⟩ : ByteArray)).size + t111.size ≤ 9223372036854775807 then (if ((t110 ++ (⟨#[46]⟩ : ByteArray)) ++ t111).size + 1 ≤ 9223372036854775807 then ((spec_l02Dec.f k (Go.bits .and .i64 (a0 / 256) 255)).bind fun t112 => (if (((t110 ++ (⟨#[46]⟩ : ByteArray)) ++ t111) ++ (⟨#[46]⟩ : ByteArray)).size + t112.size ≤ 9223372036854775807 then (if ((((t110 ++ (⟨#[46]⟩ : ByteArray)) ++ t111) ++ (⟨#[46]⟩ : ByteArray)) ++ t112).size + 1 ≤ 9223372036854775807 then ((spec_l02Dec.f k (Go.bits .and .i64 a0 255)).bind fun t113 => (if (((((t110 ++ (⟨#[46]⟩ : ByteArray)) ++ t111) ++ (⟨#[46]⟩ : ByteArray)) ++ t112) ++ (⟨#[46]⟩ : ByteArray)).size + t113.size ≤ 9223372036854775807 then (some ((((((t110 ++ (⟨#[46]⟩ : ByteArray)) ++ t111) ++ (⟨#[46]⟩ : ByteArray)) ++ t112) ++ (⟨#[46]⟩ : ByteArray)) ++ t113, 0)) else (none))) else (none)) else (none))) else (none)) else (none))) else (none)) = some (r1, r2) := H
    have A4 := Aside0.mk A40
    clear A40
    by_cases c5 : t110.size + 1 ≤ 9223372036854775807
    · rw [if_pos c5] at H
      have c5b0 := eq_true c5
      have c5b1 : decide (t110.size + 1 ≤ 9223372036854775807) = true := decide_eq_true c5
      try have c5b2 : (9223372036854775807 < t110.size + 1) = False := eq_false (Nat.not_lt.2 c5)
      replace H := Option.bind_eq_some_iff.mp H
      obtain ⟨t111, A60, H⟩ := H
      replace H : (if (t110 ++ (⟨#[46]⟩ : ByteArray)).size + t111.size ≤ 9223372036854775807 then (if ((t110 ++ (⟨#[46]⟩ : ByteArray)) ++ t111).size + 1 ≤ 9223372036854775807 then ((spec_l02Dec.f k (Go.bits .and .i64 (a0 / 256) 255)).bind fun t112 => (if (((t110 ++ (⟨#[46]⟩ : ByteArray)) ++ t111) ++ (⟨#[46]⟩ : ByteArray)).size + t112.size ≤ 9223372036854775807 then (if ((((t110 ++ (⟨#[46]⟩ : ByteArray)) ++ t111) ++ (⟨#[46]⟩ : ByteArray)) ++ t112).size + 1 ≤ 9223372036854775807 then ((spec_l02Dec.f k (Go.bits .and .i64 a0 255)).bind fun t113 => (if (((((t110 ++ (⟨#[46]⟩ : ByteArray)) ++ t111) ++ (⟨#[46]⟩ : ByteArray)) ++ t112) ++ (⟨#[46]⟩ : ByteArray)).size + t113.size ≤ 9223372036854775807 then (some ((((((t110 ++ (⟨#[46]⟩ : ByteArray)) ++ t111) ++ (⟨#[46]⟩ : ByteArray)) ++ t112) ++ (⟨#[46]⟩ : ByteArray)) ++ t113, 0)) else (none))) else (none)) else (none))) else (none)) else (none)) = some (r1, r2) := H
      have A6 := Aside0.mk A60
      clear A60
      by_cases c7 : (t110 ++ (⟨#[46]⟩ : ByteArray)).size + t111.size ≤ 9223372036854775807
      · rw [if_pos c7] at H
        have c7b0 := eq_true c7
        have c7b1 : decide ((t110 ++ (⟨#[46]⟩ : ByteArray)).size + t111.size ≤ 9223372036854775807) = true := decide_eq_true c7
        try have c7b2 : (9223372036854775807 < (t110 ++ (⟨#[46]⟩ : ByteArray)).size + t111.size) = False := eq_false (Nat.not_lt.2 c7)
        (try (have c7b5 := c7b2; simp only [ByteArray.size_append, show (⟨#[46]⟩ : ByteArray).size = 1 from rfl] at c7b5))
        by_cases c8 : ((t110 ++ (⟨#[46]⟩ : ByteArray)) ++ t111).size + 1 ≤ 9223372036854775807
        · rw [if_pos c8] at H
          have c8b0 := eq_true c8
          have c8b1 : decide (((t110 ++ (⟨#[46]⟩ : ByteArray)) ++ t111).size + 1 ≤ 9223372036854775807) = true := decide_eq_true c8
          try have c8b2 : (9223372036854775807 < ((t110 ++ (⟨#[46]⟩ : ByteArray)) ++ t111).size + 1) = False := eq_false (Nat.not_lt.2 c8)
          (try (have c8b5 := c8b2; simp only [ByteArray.size_append, show (⟨#[46]⟩ : ByteArray).size = 1 from rfl] at c8b5))
          replace H := Option.bind_eq_some_iff.mp H
          obtain ⟨t112, A90, H⟩ := H
          replace H : (if (((t110 ++ (⟨#[46]⟩ : ByteArray)) ++ t111) ++ (⟨#[46]⟩ : ByteArray)).size + t112.size ≤ 9223372036854775807 then (if ((((t110 ++ (⟨#[46]⟩ : ByteArray)) ++ t111) ++ (⟨#[46]⟩ : ByteArray)) ++ t112).size + 1 ≤ 9223372036854775807 then ((spec_l02Dec.f k (Go.bits .and .i64 a0 255)).bind fun t113 => (if (((((t110 ++ (⟨#[46]⟩ : ByteArray)) ++ t111) ++ (⟨#[46]⟩ : ByteArray)) ++ t112) ++ (⟨#[46]⟩ : ByteArray)).size + t113.size ≤ 9223372036854775807 then (some ((((((t110 ++ (⟨#[46]⟩ : ByteArray)) ++ t111) ++ (⟨#[46]⟩ : ByteArray)) ++ t112) ++ (⟨#[46]⟩ : ByteArray)) ++ t113, 0)) else (none))) else (none)) else (none)) = some (r1, r2) := H
          have A9 := Aside0.mk A90
          clear A90
          by_cases c10 : (((t110 ++ (⟨#[46]⟩ : ByteArray)) ++ t111) ++ (⟨#[46]⟩ : ByteArray)).size + t112.size ≤ 9223372036854775807
          · rw [if_pos c10] at H
            have c10b0 := eq_true c10
            have c10b1 : decide ((((t110 ++ (⟨#[46]⟩ : ByteArray)) ++ t111) ++ (⟨#[46]⟩ : ByteArray)).size + t112.size ≤ 9223372036854775807) = true := decide_eq_true c10
            try have c10b2 : (9223372036854775807 < (((t110 ++ (⟨#[46]⟩ : ByteArray)) ++ t111) ++ (⟨#[46]⟩ : ByteArray)).size + t112.size) = False := eq_false (Nat.not_lt.2 c10)
            (try (have c10b5 := c10b2; simp only [ByteArray.size_append, show (⟨#[46]⟩ : ByteArray).size = 1 from rfl] at c10b5))
            by_cases c11 : ((((t110 ++ (⟨#[46]⟩ : ByteArray)) ++ t111) ++ (⟨#[46]⟩ : ByteArray)) ++ t112).size + 1 ≤ 9223372036854775807
            · rw [if_pos c11] at H
              have c11b0 := eq_true c11
              have c11b1 : decide (((((t110 ++ (⟨#[46]⟩ : ByteArray)) ++ t111) ++ (⟨#[46]⟩ : ByteArray)) ++ t112).size + 1 ≤ 9223372036854775807) = true := decide_eq_true c11
              try have c11b2 : (9223372036854775807 < ((((t110 ++ (⟨#[46]⟩ : ByteArray)) ++ t111) ++ (⟨#[46]⟩ : ByteArray)) ++ t112).size + 1) = False := eq_false (Nat.not_lt.2 c11)
              (try (have c11b5 := c11b2; simp only [ByteArray.size_append, show (⟨#[46]⟩ : ByteArray).size = 1 from rfl] at c11b5))
              replace H := Option.bind_eq_some_iff.mp H
              obtain ⟨t113, A120, H⟩ := H
              replace H : (if (((((t110 ++ (⟨#[46]⟩ : ByteArray)) ++ t111) ++ (⟨#[46]⟩ : ByteArray)) ++ t112) ++ (⟨#[46]⟩ : ByteArray)).size + t113.size ≤ 9223372036854775807 then (some ((((((t110 ++ (⟨#[46]⟩ : ByteArray)) ++ t111) ++ (⟨#[46]⟩ : ByteArray)) ++ t112) ++ (⟨#[46]⟩ : ByteArray)) ++ t113, 0)) else (none)) = some (r1, r2) := H
              have A12 := Aside0.mk A120
              clear A120
              by_cases c13 : (((((t110 ++ (⟨#[46]⟩ : ByteArray)) ++ t111) ++ (⟨#[46]⟩ : ByteArray)) ++ t112) ++ (⟨#[46]⟩ : ByteArray)).size + t113.size ≤ 9223372036854775807
              · rw [if_pos c13] at H
                have c13b0 := eq_true c13
                have c13b1 : decide ((((((t110 ++ (⟨#[46]⟩ : ByteArray)) ++ t111) ++ (⟨#[46]⟩ : ByteArray)) ++ t112) ++ (⟨#[46]⟩ : ByteArray)).size + t113.size ≤ 9223372036854775807) = true := decide_eq_true c13
                try have c13b2 : (9223372036854775807 < (((((t110 ++ (⟨#[46]⟩ : ByteArray)) ++ t111) ++ (⟨#[46]⟩ : ByteArray)) ++ t112) ++ (⟨#[46]⟩ : ByteArray)).size + t113.size) = False := eq_false (Nat.not_lt.2 c13)
                (try (have c13b5 := c13b2; simp only [ByteArray.size_append, show (⟨#[46]⟩ : ByteArray).size = 1 from rfl] at c13b5))
                simp only [Option.some.injEq, Prod.mk.injEq] at H
                obtain ⟨rfl, rfl⟩ := H
                go_enter Tryd.func22, Tryd.ntmps22
                go_wp2_with (first | ((with_reducible refine gate_callee (f := 49) rfl ?_); refine goesL_ (some 5) rfl rfl Tryd.func49 (by kernel_rfl) rfl #[.int .i64 a0] rfl wT ?_; (with_reducible refine (spec_l02AddrOK.calls a0 true _ A2.out).mono ?_); rintro e w' ⟨rfl, ⟨nd, rfl⟩⟩; refine ⟨_, rfl, ?_⟩) | ((with_reducible refine gate_callee (f := 50) rfl ?_); refine goesL_ (some 9) rfl rfl Tryd.func50 (by kernel_rfl) rfl #[.int .i64 (a0 / 16777216)] rfl wT ?_; (with_reducible refine (spec_l02Dec.calls k (a0 / 16777216) t110 _ A4.out).mono ?_); rintro e w1001 ⟨rfl, hb⟩; refine ⟨_, rfl, ?_⟩; have n0_ := Aside0.mk (below_step wB hb); clear HB; have HB := n0_; clear n0_; (try clear hb); (try clear hb2); (try clear hk); (try clear hi)) | ((with_reducible refine gate_callee (f := 50) rfl ?_); refine goesL_ (some 14) rfl rfl Tryd.func50 (by kernel_rfl) rfl #[.int .i64 (Go.bits .and .i64 (a0 / 65536) 255)] rfl wT ?_; (with_reducible refine (spec_l02Dec.calls k (Go.bits .and .i64 (a0 / 65536) 255) t111 _ A6.out).mono ?_); rintro e w1002 ⟨rfl, hb⟩; refine ⟨_, rfl, ?_⟩; have n0_ := Aside0.mk (below_step wB hb); clear HB; have HB := n0_; clear n0_; (try clear hb); (try clear hb2); (try clear hk); (try clear hi)) | ((with_reducible refine gate_callee (f := 50) rfl ?_); refine goesL_ (some 20) rfl rfl Tryd.func50 (by kernel_rfl) rfl #[.int .i64 (Go.bits .and .i64 (a0 / 256) 255)] rfl wT ?_; (with_reducible refine (spec_l02Dec.calls k (Go.bits .and .i64 (a0 / 256) 255) t112 _ A9.out).mono ?_); rintro e w1003 ⟨rfl, hb⟩; refine ⟨_, rfl, ?_⟩; have n0_ := Aside0.mk (below_step wB hb); clear HB; have HB := n0_; clear n0_; (try clear hb); (try clear hb2); (try clear hk); (try clear hi)) | ((with_reducible refine gate_callee (f := 50) rfl ?_); refine goesL_ (some 25) rfl rfl Tryd.func50 (by kernel_rfl) rfl #[.int .i64 (Go.bits .and .i64 a0 255)] rfl wT ?_; (with_reducible refine (spec_l02Dec.calls k (Go.bits .and .i64 a0 255) t113 _ A12.out).mono ?_); rintro e w1004 ⟨rfl, hb⟩; refine ⟨_, rfl, ?_⟩; have n0_ := Aside0.mk (below_step wB hb); clear HB; have HB := n0_; clear n0_; (try clear hb); (try clear hb2); (try clear hk); (try clear hi)))
                go_ret2
                exact ⟨by first | rfl | (simp [errW_none, errW_some] <;> rfl) | (simp [*, errW_none, errW_some] <;> rfl), wB⟩
              · rw [if_neg c13] at H
                exact absurd H (by simp)
            · rw [if_neg c11] at H
              exact absurd H (by simp)
          · rw [if_neg c10] at H
            exact absurd H (by simp)
        · rw [if_neg c8] at H
          exact absurd H (by simp)
      · rw [if_neg c7] at H
        exact absurd H (by simp)
    · rw [if_neg c5] at H
      exact absurd H (by simp)
  · replace c3 := Bool.eq_false_iff.mpr c3
    subst c3
    have H1 : (some ((⟨#[]⟩ : ByteArray), 1)) = some (r1, r2) := by rw [if_neg (show ¬ (false = true) by decide)] at H; exact H
    clear H
    have H := H1
    clear H1
    simp only [Option.some.injEq, Prod.mk.injEq] at H
    obtain ⟨rfl, rfl⟩ := H
    go_enter Tryd.func22, Tryd.ntmps22
    go_wp2_with (first | ((with_reducible refine gate_callee (f := 49) rfl ?_); refine goesL_ (some 5) rfl rfl Tryd.func49 (by kernel_rfl) rfl #[.int .i64 a0] rfl wT ?_; (with_reducible refine (spec_l02AddrOK.calls a0 false _ A2.out).mono ?_); rintro e w' ⟨rfl, ⟨nd, rfl⟩⟩; refine ⟨_, rfl, ?_⟩))
    go_ret2
    exact ⟨by first | rfl | (simp [errW_none, errW_some] <;> rfl) | (simp [*, errW_none, errW_some] <;> rfl), wB⟩

/-! ### spec_l02Size: function 65 -/
def spec_l02Size.l0 : Nat → Int → Int → Option (Int)
  | 0, _, _ => none
  | k + 1, x3, x4 => if x4 < 32 then (spec_l02Size.l0 k (wrap64 (x3 * 2)) (wrap64 (x4 + 1))) else (some x3)
def spec_l02Size.f (k : Nat) (a0 : Int) : Option (Int) := spec_l02Size.l0 k 1 a0
theorem spec_l02Size.mono_l : ∀ k, (∀ y0 y1, LeO (spec_l02Size.l0 k y0 y1) (spec_l02Size.l0 (k + 1) y0 y1))
  | 0 => fun _ _ r h => by simp [spec_l02Size.l0] at h
  | k + 1 => by
    have ih0 := spec_l02Size.mono_l k
    · intro y0 y1
      unfold spec_l02Size.l0
      repeat' first
      | (with_reducible exact ih0 _ _)
      | (with_reducible exact LeO.refl _)
      | (with_reducible exact LeO.none _)
      | (with_reducible refine LeO.ite ?_ ?_)
      | (with_reducible refine LeO.bind ?_ (fun _ => ?_))
      | exact ih0 _ _
      | exact LeO.none _
      | refine LeO.ite ?_ ?_
      | refine LeO.bind ?_ (fun _ => ?_)
theorem spec_l02Size.mono : ∀ a0 k, LeO (spec_l02Size.f k a0) (spec_l02Size.f (k + 1) a0) := by
  intro a0 k
  have ih0 := spec_l02Size.mono_l k
  unfold spec_l02Size.f
  repeat' first
      | (with_reducible exact ih0 _ _)
      | (with_reducible exact LeO.refl _)
      | (with_reducible exact LeO.none _)
      | (with_reducible refine LeO.ite ?_ ?_)
      | (with_reducible refine LeO.bind ?_ (fun _ => ?_))
      | exact ih0 _ _
      | exact LeO.none _
      | refine LeO.ite ?_ ?_
      | refine LeO.bind ?_ (fun _ => ?_)
set_option maxHeartbeats 60000000 in
set_option maxRecDepth 100000 in
theorem spec_l02Size.calls (k : Nat) (a0 : Int) (r : Int) (w : World) (h : spec_l02Size.f k a0 = some r) :
    Calls Tryd.prog 65 #[.int .i64 a0] w fun e w' => e = .returned (.int .i64 r) ∧ Drawn0 w w' := by
  have H : (spec_l02Size.l0 k 1 a0) = some r := h
  clear h
  have H' := Aside0.mk H
  clear H
  go_enter Tryd.func65, Tryd.ntmps65
  go_wp2
  go_loopg [3, 4] k (fun kq v3 v4 w' => ∃ (x3_1 : Int) (x4_1 : Int), v3 = .int .i64 x3_1 ∧ v4 = .int .i64 x4_1 ∧ Aside0 (spec_l02Size.l0 kq x3_1 x4_1 = some r) ∧ Aside0 (kq ≤ k) ∧ Drawn0 w w')
  case atStart => exact ⟨(1), (a0), (by first | rfl | (simp; done) | (simp [*]; done)), (by first | rfl | (simp; done) | (simp [*]; done)), H', ⟨Nat.le_refl _⟩, by repeat (first | exact Drawn0.refl _ | apply Drawn0.step)⟩
  case round =>
    clear H'
    obtain ⟨x3_1, x4_1, rfl, rfl, HA, HK1, ⟨m1, rfl⟩⟩ := hrel
    cases gk with
    | zero => exact absurd HA.out (by simp [spec_l02Size.l0])
    | succ k1 =>
      have H := HA.out
      clear HA
      simp only [spec_l02Size.l0] at H
      by_cases c1001 : x4_1 < 32
      · rw [if_pos c1001] at H
        have c1001b0 : decide (x4_1 < 32) = true := decide_eq_true c1001
        clear c1001
        have H' := Aside0.mk H
        clear H
        go_wp2
        go_roundg k1
        case measure => have := HK1.out; omega
        case rel => exact ⟨(wrap64 (x3_1 * 2)), (wrap64 (x4_1 + 1)), (by first | rfl | (simp; done) | (simp [*]; done)), (by first | rfl | (simp; done) | (simp [*]; done)), H', ⟨by have := HK1.out; omega⟩, by repeat (first | exact Drawn0.refl _ | apply Drawn0.step)⟩
      · rw [if_neg c1001] at H
        have c1001b0 : decide (x4_1 < 32) = false := decide_eq_false c1001
        clear c1001
        obtain rfl := Option.some.inj H
        go_wp2
        go_ret
        exact ⟨by first | rfl | (simp; done) | (simp [*]; done), by repeat (first | exact Drawn0.refl _ | apply Drawn0.step)⟩

/-! ### spec_l02PrefixOK: function 45 -/
def spec_l02PrefixOK.f (k : Nat) (a0_0 : Int) (a0_1 : Int) : Option (Bool) := (spec_l02AddrOK.f a0_0).bind fun t115 => (if t115 = true then ((spec_l01In.f a0_1 0 32).bind fun t116 => (if t116 = true then ((spec_l02Size.f k a0_1).bind fun t117 => (if t117 = 0 then (none) else (some ((Int.tmod a0_0 t117) == 0)))) else (some false))) else (some false))
theorem spec_l02PrefixOK.mono : ∀ a0 a1 k, LeO (spec_l02PrefixOK.f k a0 a1) (spec_l02PrefixOK.f (k + 1) a0 a1) := by
  intro a0 a1 k
  unfold spec_l02PrefixOK.f
  repeat' first
      | (with_reducible exact spec_l02Size.mono _ _)
      | (with_reducible exact LeO.refl _)
      | (with_reducible exact LeO.none _)
      | (with_reducible refine LeO.ite ?_ ?_)
      | (with_reducible refine LeO.bind ?_ (fun _ => ?_))
      | exact spec_l02Size.mono _ _
      | exact LeO.none _
      | refine LeO.ite ?_ ?_
      | refine LeO.bind ?_ (fun _ => ?_)
set_option maxHeartbeats 60000000 in
set_option maxRecDepth 100000 in
theorem spec_l02PrefixOK.calls (k : Nat) (a0_0 : Int) (a0_1 : Int) (r : Bool) (w : World) (h : spec_l02PrefixOK.f k a0_0 a0_1 = some r) :
    Calls Tryd.prog 45 #[.agg #[.int .i64 a0_0, .int .i64 a0_1]] w fun e w' => e = .returned (.bool r) ∧ Below w.heap.size w w' := by
  have hu36 := Tryd.underlying36
  have HB := Aside0.mk (Below.refl w.heap.size w)
  have H : ((spec_l02AddrOK.f a0_0).bind fun t115 => (if t115 = true then ((spec_l01In.f a0_1 0 32).bind fun t116 => (if t116 = true then ((spec_l02Size.f k a0_1).bind fun t117 => (if t117 = 0 then (none) else (some ((Int.tmod a0_0 t117) == 0)))) else (some false))) else (some false))) = some r := h
  clear h
  replace H := Option.bind_eq_some_iff.mp H
  obtain ⟨t115, A20, H⟩ := H
  replace H : (if t115 = true then ((spec_l01In.f a0_1 0 32).bind fun t116 => (if t116 = true then ((spec_l02Size.f k a0_1).bind fun t117 => (if t117 = 0 then (none) else (some ((Int.tmod a0_0 t117) == 0)))) else (some false))) else (some false)) = some r := H
  have A2 := Aside0.mk A20
  clear A20
  by_cases c3 : t115 = true
  · subst c3
    have H1 : ((spec_l01In.f a0_1 0 32).bind fun t116 => (if t116 = true then ((spec_l02Size.f k a0_1).bind fun t117 => (if t117 = 0 then (none) else (some ((Int.tmod a0_0 t117) == 0)))) else (some false))) = some r := by rw [if_pos rfl] at H; exact H
    clear H
    have H := H1
    clear H1
    replace H := Option.bind_eq_some_iff.mp H
    obtain ⟨t116, A40, H⟩ := H
    replace H : (if t116 = true then ((spec_l02Size.f k a0_1).bind fun t117 => (if t117 = 0 then (none) else (some ((Int.tmod a0_0 t117) == 0)))) else (some false)) = some r := H
    have A4 := Aside0.mk A40
    clear A40
    by_cases c5 : t116 = true
    · subst c5
      have H1 : ((spec_l02Size.f k a0_1).bind fun t117 => (if t117 = 0 then (none) else (some ((Int.tmod a0_0 t117) == 0)))) = some r := by rw [if_pos rfl] at H; exact H
      clear H
      have H := H1
      clear H1
      replace H := Option.bind_eq_some_iff.mp H
      obtain ⟨t117, A60, H⟩ := H
      replace H : (if t117 = 0 then (none) else (some ((Int.tmod a0_0 t117) == 0))) = some r := H
      have A6 := Aside0.mk A60
      clear A60
      by_cases c7 : t117 = 0
      · rw [if_pos c7] at H
        exact absurd H (by simp)
      · rw [if_neg c7] at H
        have c7b0 : (t117 == 0) = false := beq_eq_false_iff_ne.mpr c7
        have c7b1 : (t117 != 0) = true := bne_iff_ne.mpr c7
        obtain rfl := Option.some.inj H
        go_enter Tryd.func45, Tryd.ntmps45
        go_wp2_with (first | ((with_reducible refine gate_dst (N := 1) rfl ?_); refine box_event ?hg (N := 1) ?hd (cs := #[.int .i64 a0_0, .int .i64 a0_1]) (t := 36) ?hr ?_; (case hd => rfl); (case hg => rfl); (case hr => first | (go_simp; done) | (go_simp; rfl)); intro gb114 hg w1001 hbox hb; have n0_ := Aside0.mk (below_step wB hb); have n1_ := Aside0.mk (hbox); have n2_ := Aside0.mk ((by rw [hg]; exact (below_size wB) : w.heap.size ≤ gb114)); have n3_ := Aside0.mk ((by rw [hg]; exact (below_size wB) : w.heap.size ≤ gb114)); clear HB; have HB := n0_; have BK114 := n1_; have GW114 := n2_; have GE114 := n3_; clear n0_ n1_ n2_ n3_; clear hb hbox hg; obtain ⟨⟨hcz1002_0, hcz1002_1⟩, hfz1002_0, hfz1002_1⟩ := cells2 BK114.out) | (go_at_call 49; (with_reducible refine (spec_l02AddrOK.calls a0_0 true _ A2.out).mono ?_); rintro e w' ⟨rfl, ⟨nd, rfl⟩⟩; (try first | exact ⟨rfl, _, World.drewN_drewN _ _ _⟩ | exact ⟨rfl, _, Eq.trans (World.drewN_drewN _ _ _) (congrArg (World.drewN _) (Nat.add_assoc _ _ _))⟩)) | (go_at_call 66; (with_reducible refine (spec_l01In.calls a0_1 0 32 true _ A4.out).mono ?_); rintro e w' ⟨rfl, ⟨nd, rfl⟩⟩; (try first | exact ⟨rfl, _, World.drewN_drewN _ _ _⟩ | exact ⟨rfl, _, Eq.trans (World.drewN_drewN _ _ _) (congrArg (World.drewN _) (Nat.add_assoc _ _ _))⟩)) | (go_at_call 65; (with_reducible refine (spec_l02Size.calls k a0_1 t117 _ A6.out).mono ?_); rintro e w' ⟨rfl, ⟨nd, rfl⟩⟩; (try first | exact ⟨rfl, _, World.drewN_drewN _ _ _⟩ | exact ⟨rfl, _, Eq.trans (World.drewN_drewN _ _ _) (congrArg (World.drewN _) (Nat.add_assoc _ _ _))⟩)))
        repeat (go_quiet (first | ((with_reducible refine gate_dst (N := 1) rfl ?_); refine box_event ?hg (N := 1) ?hd (cs := #[.int .i64 a0_0, .int .i64 a0_1]) (t := 36) ?hr ?_; (case hd => rfl); (case hg => rfl); (case hr => first | (go_simp; done) | (go_simp; rfl)); intro gb114 hg w1001 hbox hb; have n0_ := Aside0.mk (below_step wB hb); have n1_ := Aside0.mk (hbox); have n2_ := Aside0.mk ((by rw [hg]; exact (below_size wB) : w.heap.size ≤ gb114)); have n3_ := Aside0.mk ((by rw [hg]; exact (below_size wB) : w.heap.size ≤ gb114)); clear HB; have HB := n0_; have BK114 := n1_; have GW114 := n2_; have GE114 := n3_; clear n0_ n1_ n2_ n3_; clear hb hbox hg; obtain ⟨⟨hcz1002_0, hcz1002_1⟩, hfz1002_0, hfz1002_1⟩ := cells2 BK114.out) | (go_at_call 49; (with_reducible refine (spec_l02AddrOK.calls a0_0 true _ A2.out).mono ?_); rintro e w' ⟨rfl, ⟨nd, rfl⟩⟩; (try first | exact ⟨rfl, _, World.drewN_drewN _ _ _⟩ | exact ⟨rfl, _, Eq.trans (World.drewN_drewN _ _ _) (congrArg (World.drewN _) (Nat.add_assoc _ _ _))⟩)) | (go_at_call 66; (with_reducible refine (spec_l01In.calls a0_1 0 32 true _ A4.out).mono ?_); rintro e w' ⟨rfl, ⟨nd, rfl⟩⟩; (try first | exact ⟨rfl, _, World.drewN_drewN _ _ _⟩ | exact ⟨rfl, _, Eq.trans (World.drewN_drewN _ _ _) (congrArg (World.drewN _) (Nat.add_assoc _ _ _))⟩)) | (go_at_call 65; (with_reducible refine (spec_l02Size.calls k a0_1 t117 _ A6.out).mono ?_); rintro e w' ⟨rfl, ⟨nd, rfl⟩⟩; (try first | exact ⟨rfl, _, World.drewN_drewN _ _ _⟩ | exact ⟨rfl, _, Eq.trans (World.drewN_drewN _ _ _) (congrArg (World.drewN _) (Nat.add_assoc _ _ _))⟩))); try go_wp2_with (first | ((with_reducible refine gate_dst (N := 1) rfl ?_); refine box_event ?hg (N := 1) ?hd (cs := #[.int .i64 a0_0, .int .i64 a0_1]) (t := 36) ?hr ?_; (case hd => rfl); (case hg => rfl); (case hr => first | (go_simp; done) | (go_simp; rfl)); intro gb114 hg w1001 hbox hb; have n0_ := Aside0.mk (below_step wB hb); have n1_ := Aside0.mk (hbox); have n2_ := Aside0.mk ((by rw [hg]; exact (below_size wB) : w.heap.size ≤ gb114)); have n3_ := Aside0.mk ((by rw [hg]; exact (below_size wB) : w.heap.size ≤ gb114)); clear HB; have HB := n0_; have BK114 := n1_; have GW114 := n2_; have GE114 := n3_; clear n0_ n1_ n2_ n3_; clear hb hbox hg; obtain ⟨⟨hcz1002_0, hcz1002_1⟩, hfz1002_0, hfz1002_1⟩ := cells2 BK114.out) | (go_at_call 49; (with_reducible refine (spec_l02AddrOK.calls a0_0 true _ A2.out).mono ?_); rintro e w' ⟨rfl, ⟨nd, rfl⟩⟩; (try first | exact ⟨rfl, _, World.drewN_drewN _ _ _⟩ | exact ⟨rfl, _, Eq.trans (World.drewN_drewN _ _ _) (congrArg (World.drewN _) (Nat.add_assoc _ _ _))⟩)) | (go_at_call 66; (with_reducible refine (spec_l01In.calls a0_1 0 32 true _ A4.out).mono ?_); rintro e w' ⟨rfl, ⟨nd, rfl⟩⟩; (try first | exact ⟨rfl, _, World.drewN_drewN _ _ _⟩ | exact ⟨rfl, _, Eq.trans (World.drewN_drewN _ _ _) (congrArg (World.drewN _) (Nat.add_assoc _ _ _))⟩)) | (go_at_call 65; (with_reducible refine (spec_l02Size.calls k a0_1 t117 _ A6.out).mono ?_); rintro e w' ⟨rfl, ⟨nd, rfl⟩⟩; (try first | exact ⟨rfl, _, World.drewN_drewN _ _ _⟩ | exact ⟨rfl, _, Eq.trans (World.drewN_drewN _ _ _) (congrArg (World.drewN _) (Nat.add_assoc _ _ _))⟩))))
        go_ret
        exact ⟨by first | rfl | (simp [errW_none, errW_some] <;> rfl) | (simp [*, errW_none, errW_some] <;> rfl), wB⟩
    · replace c5 := Bool.eq_false_iff.mpr c5
      subst c5
      have H1 : (some false) = some r := by rw [if_neg (show ¬ (false = true) by decide)] at H; exact H
      clear H
      have H := H1
      clear H1
      obtain rfl := Option.some.inj H
      go_enter Tryd.func45, Tryd.ntmps45
      go_wp2_with (first | ((with_reducible refine gate_dst (N := 1) rfl ?_); refine box_event ?hg (N := 1) ?hd (cs := #[.int .i64 a0_0, .int .i64 a0_1]) (t := 36) ?hr ?_; (case hd => rfl); (case hg => rfl); (case hr => first | (go_simp; done) | (go_simp; rfl)); intro gb114 hg w1001 hbox hb; have n0_ := Aside0.mk (below_step wB hb); have n1_ := Aside0.mk (hbox); have n2_ := Aside0.mk ((by rw [hg]; exact (below_size wB) : w.heap.size ≤ gb114)); have n3_ := Aside0.mk ((by rw [hg]; exact (below_size wB) : w.heap.size ≤ gb114)); clear HB; have HB := n0_; have BK114 := n1_; have GW114 := n2_; have GE114 := n3_; clear n0_ n1_ n2_ n3_; clear hb hbox hg; obtain ⟨⟨hcz1002_0, hcz1002_1⟩, hfz1002_0, hfz1002_1⟩ := cells2 BK114.out) | (go_at_call 49; (with_reducible refine (spec_l02AddrOK.calls a0_0 true _ A2.out).mono ?_); rintro e w' ⟨rfl, ⟨nd, rfl⟩⟩; (try first | exact ⟨rfl, _, World.drewN_drewN _ _ _⟩ | exact ⟨rfl, _, Eq.trans (World.drewN_drewN _ _ _) (congrArg (World.drewN _) (Nat.add_assoc _ _ _))⟩)) | (go_at_call 66; (with_reducible refine (spec_l01In.calls a0_1 0 32 false _ A4.out).mono ?_); rintro e w' ⟨rfl, ⟨nd, rfl⟩⟩; (try first | exact ⟨rfl, _, World.drewN_drewN _ _ _⟩ | exact ⟨rfl, _, Eq.trans (World.drewN_drewN _ _ _) (congrArg (World.drewN _) (Nat.add_assoc _ _ _))⟩)))
      repeat (go_quiet (first | ((with_reducible refine gate_dst (N := 1) rfl ?_); refine box_event ?hg (N := 1) ?hd (cs := #[.int .i64 a0_0, .int .i64 a0_1]) (t := 36) ?hr ?_; (case hd => rfl); (case hg => rfl); (case hr => first | (go_simp; done) | (go_simp; rfl)); intro gb114 hg w1001 hbox hb; have n0_ := Aside0.mk (below_step wB hb); have n1_ := Aside0.mk (hbox); have n2_ := Aside0.mk ((by rw [hg]; exact (below_size wB) : w.heap.size ≤ gb114)); have n3_ := Aside0.mk ((by rw [hg]; exact (below_size wB) : w.heap.size ≤ gb114)); clear HB; have HB := n0_; have BK114 := n1_; have GW114 := n2_; have GE114 := n3_; clear n0_ n1_ n2_ n3_; clear hb hbox hg; obtain ⟨⟨hcz1002_0, hcz1002_1⟩, hfz1002_0, hfz1002_1⟩ := cells2 BK114.out) | (go_at_call 49; (with_reducible refine (spec_l02AddrOK.calls a0_0 true _ A2.out).mono ?_); rintro e w' ⟨rfl, ⟨nd, rfl⟩⟩; (try first | exact ⟨rfl, _, World.drewN_drewN _ _ _⟩ | exact ⟨rfl, _, Eq.trans (World.drewN_drewN _ _ _) (congrArg (World.drewN _) (Nat.add_assoc _ _ _))⟩)) | (go_at_call 66; (with_reducible refine (spec_l01In.calls a0_1 0 32 false _ A4.out).mono ?_); rintro e w' ⟨rfl, ⟨nd, rfl⟩⟩; (try first | exact ⟨rfl, _, World.drewN_drewN _ _ _⟩ | exact ⟨rfl, _, Eq.trans (World.drewN_drewN _ _ _) (congrArg (World.drewN _) (Nat.add_assoc _ _ _))⟩))); try go_wp2_with (first | ((with_reducible refine gate_dst (N := 1) rfl ?_); refine box_event ?hg (N := 1) ?hd (cs := #[.int .i64 a0_0, .int .i64 a0_1]) (t := 36) ?hr ?_; (case hd => rfl); (case hg => rfl); (case hr => first | (go_simp; done) | (go_simp; rfl)); intro gb114 hg w1001 hbox hb; have n0_ := Aside0.mk (below_step wB hb); have n1_ := Aside0.mk (hbox); have n2_ := Aside0.mk ((by rw [hg]; exact (below_size wB) : w.heap.size ≤ gb114)); have n3_ := Aside0.mk ((by rw [hg]; exact (below_size wB) : w.heap.size ≤ gb114)); clear HB; have HB := n0_; have BK114 := n1_; have GW114 := n2_; have GE114 := n3_; clear n0_ n1_ n2_ n3_; clear hb hbox hg; obtain ⟨⟨hcz1002_0, hcz1002_1⟩, hfz1002_0, hfz1002_1⟩ := cells2 BK114.out) | (go_at_call 49; (with_reducible refine (spec_l02AddrOK.calls a0_0 true _ A2.out).mono ?_); rintro e w' ⟨rfl, ⟨nd, rfl⟩⟩; (try first | exact ⟨rfl, _, World.drewN_drewN _ _ _⟩ | exact ⟨rfl, _, Eq.trans (World.drewN_drewN _ _ _) (congrArg (World.drewN _) (Nat.add_assoc _ _ _))⟩)) | (go_at_call 66; (with_reducible refine (spec_l01In.calls a0_1 0 32 false _ A4.out).mono ?_); rintro e w' ⟨rfl, ⟨nd, rfl⟩⟩; (try first | exact ⟨rfl, _, World.drewN_drewN _ _ _⟩ | exact ⟨rfl, _, Eq.trans (World.drewN_drewN _ _ _) (congrArg (World.drewN _) (Nat.add_assoc _ _ _))⟩))))
      go_ret
      exact ⟨by first | rfl | (simp [errW_none, errW_some] <;> rfl) | (simp [*, errW_none, errW_some] <;> rfl), wB⟩
  · replace c3 := Bool.eq_false_iff.mpr c3
    subst c3
    have H1 : (some false) = some r := by rw [if_neg (show ¬ (false = true) by decide)] at H; exact H
    clear H
    have H := H1
    clear H1
    obtain rfl := Option.some.inj H
    go_enter Tryd.func45, Tryd.ntmps45
    go_wp2_with (first | ((with_reducible refine gate_dst (N := 1) rfl ?_); refine box_event ?hg (N := 1) ?hd (cs := #[.int .i64 a0_0, .int .i64 a0_1]) (t := 36) ?hr ?_; (case hd => rfl); (case hg => rfl); (case hr => first | (go_simp; done) | (go_simp; rfl)); intro gb114 hg w1001 hbox hb; have n0_ := Aside0.mk (below_step wB hb); have n1_ := Aside0.mk (hbox); have n2_ := Aside0.mk ((by rw [hg]; exact (below_size wB) : w.heap.size ≤ gb114)); have n3_ := Aside0.mk ((by rw [hg]; exact (below_size wB) : w.heap.size ≤ gb114)); clear HB; have HB := n0_; have BK114 := n1_; have GW114 := n2_; have GE114 := n3_; clear n0_ n1_ n2_ n3_; clear hb hbox hg; obtain ⟨⟨hcz1002_0, hcz1002_1⟩, hfz1002_0, hfz1002_1⟩ := cells2 BK114.out) | (go_at_call 49; (with_reducible refine (spec_l02AddrOK.calls a0_0 false _ A2.out).mono ?_); rintro e w' ⟨rfl, ⟨nd, rfl⟩⟩; (try first | exact ⟨rfl, _, World.drewN_drewN _ _ _⟩ | exact ⟨rfl, _, Eq.trans (World.drewN_drewN _ _ _) (congrArg (World.drewN _) (Nat.add_assoc _ _ _))⟩)))
    repeat (go_quiet (first | ((with_reducible refine gate_dst (N := 1) rfl ?_); refine box_event ?hg (N := 1) ?hd (cs := #[.int .i64 a0_0, .int .i64 a0_1]) (t := 36) ?hr ?_; (case hd => rfl); (case hg => rfl); (case hr => first | (go_simp; done) | (go_simp; rfl)); intro gb114 hg w1001 hbox hb; have n0_ := Aside0.mk (below_step wB hb); have n1_ := Aside0.mk (hbox); have n2_ := Aside0.mk ((by rw [hg]; exact (below_size wB) : w.heap.size ≤ gb114)); have n3_ := Aside0.mk ((by rw [hg]; exact (below_size wB) : w.heap.size ≤ gb114)); clear HB; have HB := n0_; have BK114 := n1_; have GW114 := n2_; have GE114 := n3_; clear n0_ n1_ n2_ n3_; clear hb hbox hg; obtain ⟨⟨hcz1002_0, hcz1002_1⟩, hfz1002_0, hfz1002_1⟩ := cells2 BK114.out) | (go_at_call 49; (with_reducible refine (spec_l02AddrOK.calls a0_0 false _ A2.out).mono ?_); rintro e w' ⟨rfl, ⟨nd, rfl⟩⟩; (try first | exact ⟨rfl, _, World.drewN_drewN _ _ _⟩ | exact ⟨rfl, _, Eq.trans (World.drewN_drewN _ _ _) (congrArg (World.drewN _) (Nat.add_assoc _ _ _))⟩))); try go_wp2_with (first | ((with_reducible refine gate_dst (N := 1) rfl ?_); refine box_event ?hg (N := 1) ?hd (cs := #[.int .i64 a0_0, .int .i64 a0_1]) (t := 36) ?hr ?_; (case hd => rfl); (case hg => rfl); (case hr => first | (go_simp; done) | (go_simp; rfl)); intro gb114 hg w1001 hbox hb; have n0_ := Aside0.mk (below_step wB hb); have n1_ := Aside0.mk (hbox); have n2_ := Aside0.mk ((by rw [hg]; exact (below_size wB) : w.heap.size ≤ gb114)); have n3_ := Aside0.mk ((by rw [hg]; exact (below_size wB) : w.heap.size ≤ gb114)); clear HB; have HB := n0_; have BK114 := n1_; have GW114 := n2_; have GE114 := n3_; clear n0_ n1_ n2_ n3_; clear hb hbox hg; obtain ⟨⟨hcz1002_0, hcz1002_1⟩, hfz1002_0, hfz1002_1⟩ := cells2 BK114.out) | (go_at_call 49; (with_reducible refine (spec_l02AddrOK.calls a0_0 false _ A2.out).mono ?_); rintro e w' ⟨rfl, ⟨nd, rfl⟩⟩; (try first | exact ⟨rfl, _, World.drewN_drewN _ _ _⟩ | exact ⟨rfl, _, Eq.trans (World.drewN_drewN _ _ _) (congrArg (World.drewN _) (Nat.add_assoc _ _ _))⟩))))
    go_ret
    exact ⟨by first | rfl | (simp [errW_none, errW_some] <;> rfl) | (simp [*, errW_none, errW_some] <;> rfl), wB⟩

/-! ### spec_ShowPrefix: function 25 -/
def spec_ShowPrefix.f (k : Nat) (a0_0 : Int) (a0_1 : Int) : Option (ByteArray × Int) := (spec_l02PrefixOK.f k a0_0 a0_1).bind fun t119 => (if t119 = true then ((spec_ShowAddr.f k a0_0).bind fun bt120 => (if bt120.1.size + 1 ≤ 9223372036854775807 then ((spec_l02Dec.f k a0_1).bind fun t122 => (if (bt120.1 ++ (⟨#[47]⟩ : ByteArray)).size + t122.size ≤ 9223372036854775807 then (some ((bt120.1 ++ (⟨#[47]⟩ : ByteArray)) ++ t122, 0)) else (none))) else (none))) else (some ((⟨#[]⟩ : ByteArray), 1)))
theorem spec_ShowPrefix.mono : ∀ a0 a1 k, LeO (spec_ShowPrefix.f k a0 a1) (spec_ShowPrefix.f (k + 1) a0 a1) := by
  intro a0 a1 k
  unfold spec_ShowPrefix.f
  repeat' first
      | (with_reducible exact spec_ShowAddr.mono _ _)
      | (with_reducible exact spec_l02Dec.mono _ _)
      | (with_reducible exact spec_l02PrefixOK.mono _ _ _)
      | (with_reducible exact LeO.refl _)
      | (with_reducible exact LeO.none _)
      | (with_reducible refine LeO.ite ?_ ?_)
      | (with_reducible refine LeO.bind ?_ (fun _ => ?_))
      | exact spec_ShowAddr.mono _ _
      | exact spec_l02Dec.mono _ _
      | exact spec_l02PrefixOK.mono _ _ _
      | exact LeO.none _
      | refine LeO.ite ?_ ?_
      | refine LeO.bind ?_ (fun _ => ?_)
set_option maxHeartbeats 60000000 in
set_option maxRecDepth 100000 in
theorem spec_ShowPrefix.calls (k : Nat) (a0_0 : Int) (a0_1 : Int) (r1 : ByteArray) (r2 : Int) (w : World) (h : spec_ShowPrefix.f k a0_0 a0_1 = some (r1, r2)) :
    Calls Tryd.prog 25 #[.agg #[.int .i64 a0_0, .int .i64 a0_1]] w fun e w' => e = .returned (.tuple #[.string r1, .int .i64 r2]) ∧ Below w.heap.size w w' := by
  have hu36 := Tryd.underlying36
  have HB := Aside0.mk (Below.refl w.heap.size w)
  have H : ((spec_l02PrefixOK.f k a0_0 a0_1).bind fun t119 => (if t119 = true then ((spec_ShowAddr.f k a0_0).bind fun bt120 => (if bt120.1.size + 1 ≤ 9223372036854775807 then ((spec_l02Dec.f k a0_1).bind fun t122 => (if (bt120.1 ++ (⟨#[47]⟩ : ByteArray)).size + t122.size ≤ 9223372036854775807 then (some ((bt120.1 ++ (⟨#[47]⟩ : ByteArray)) ++ t122, 0)) else (none))) else (none))) else (some ((⟨#[]⟩ : ByteArray), 1)))) = some (r1, r2) := h
  clear h
  replace H := Option.bind_eq_some_iff.mp H
  obtain ⟨t119, A20, H⟩ := H
  replace H : (if t119 = true then ((spec_ShowAddr.f k a0_0).bind fun bt120 => (if bt120.1.size + 1 ≤ 9223372036854775807 then ((spec_l02Dec.f k a0_1).bind fun t122 => (if (bt120.1 ++ (⟨#[47]⟩ : ByteArray)).size + t122.size ≤ 9223372036854775807 then (some ((bt120.1 ++ (⟨#[47]⟩ : ByteArray)) ++ t122, 0)) else (none))) else (none))) else (some ((⟨#[]⟩ : ByteArray), 1))) = some (r1, r2) := H
  have A2 := Aside0.mk A20
  clear A20
  by_cases c3 : t119 = true
  · subst c3
    have H1 : ((spec_ShowAddr.f k a0_0).bind fun bt120 => (if bt120.1.size + 1 ≤ 9223372036854775807 then ((spec_l02Dec.f k a0_1).bind fun t122 => (if (bt120.1 ++ (⟨#[47]⟩ : ByteArray)).size + t122.size ≤ 9223372036854775807 then (some ((bt120.1 ++ (⟨#[47]⟩ : ByteArray)) ++ t122, 0)) else (none))) else (none))) = some (r1, r2) := by rw [if_pos rfl] at H; exact H
    clear H
    have H := H1
    clear H1
    replace H := Option.bind_eq_some_iff.mp H
    obtain ⟨⟨t120, t121⟩, A40, H⟩ := H
    replace H : (if t120.size + 1 ≤ 9223372036854775807 then ((spec_l02Dec.f k a0_1).bind fun t122 => (if (t120 ++ (⟨#[47]⟩ : ByteArray)).size + t122.size ≤ 9223372036854775807 then (some ((t120 ++ (⟨#[47]⟩ : ByteArray)) ++ t122, 0)) else (none))) else (none)) = some (r1, r2) := H
    have A4 := Aside0.mk A40
    clear A40
    by_cases c5 : t120.size + 1 ≤ 9223372036854775807
    · rw [if_pos c5] at H
      have c5b0 := eq_true c5
      have c5b1 : decide (t120.size + 1 ≤ 9223372036854775807) = true := decide_eq_true c5
      try have c5b2 : (9223372036854775807 < t120.size + 1) = False := eq_false (Nat.not_lt.2 c5)
      replace H := Option.bind_eq_some_iff.mp H
      obtain ⟨t122, A60, H⟩ := H
      replace H : (if (t120 ++ (⟨#[47]⟩ : ByteArray)).size + t122.size ≤ 9223372036854775807 then (some ((t120 ++ (⟨#[47]⟩ : ByteArray)) ++ t122, 0)) else (none)) = some (r1, r2) := H
      have A6 := Aside0.mk A60
      clear A60
      by_cases c7 : (t120 ++ (⟨#[47]⟩ : ByteArray)).size + t122.size ≤ 9223372036854775807
      · rw [if_pos c7] at H
        have c7b0 := eq_true c7
        have c7b1 : decide ((t120 ++ (⟨#[47]⟩ : ByteArray)).size + t122.size ≤ 9223372036854775807) = true := decide_eq_true c7
        try have c7b2 : (9223372036854775807 < (t120 ++ (⟨#[47]⟩ : ByteArray)).size + t122.size) = False := eq_false (Nat.not_lt.2 c7)
        (try (have c7b5 := c7b2; simp only [ByteArray.size_append, show (⟨#[47]⟩ : ByteArray).size = 1 from rfl] at c7b5))
        simp only [Option.some.injEq, Prod.mk.injEq] at H
        obtain ⟨rfl, rfl⟩ := H
        go_enter Tryd.func25, Tryd.ntmps25
        go_wp2_with (first | ((with_reducible refine gate_dst (N := 1) rfl ?_); refine box_event ?hg (N := 1) ?hd (cs := #[.int .i64 a0_0, .int .i64 a0_1]) (t := 36) ?hr ?_; (case hd => rfl); (case hg => rfl); (case hr => first | (go_simp; done) | (go_simp; rfl)); intro gb118 hg w1001 hbox hb; have n0_ := Aside0.mk (below_step wB hb); have n1_ := Aside0.mk (hbox); have n2_ := Aside0.mk ((by rw [hg]; exact (below_size wB) : w.heap.size ≤ gb118)); have n3_ := Aside0.mk ((by rw [hg]; exact (below_size wB) : w.heap.size ≤ gb118)); clear HB; have HB := n0_; have BK118 := n1_; have GW118 := n2_; have GE118 := n3_; clear n0_ n1_ n2_ n3_; clear hb hbox hg; obtain ⟨⟨hcz1002_0, hcz1002_1⟩, hfz1002_0, hfz1002_1⟩ := cells2 BK118.out) | ((with_reducible refine gate_callee (f := 45) rfl ?_); refine goesL_ (some 7) rfl rfl Tryd.func45 (by kernel_rfl) rfl #[.agg #[.int .i64 a0_0, .int .i64 a0_1]] rfl wT ?_; (with_reducible refine (spec_l02PrefixOK.calls k a0_0 a0_1 true _ A2.out).mono ?_); rintro e w1003 ⟨rfl, hb⟩; refine ⟨_, rfl, ?_⟩; have n0_ := Aside0.mk (blk_below (Bh BK118) hb); have n1_ := Aside0.mk (below_step wB hb); clear BK118; clear HB; have BK118 := n0_; have HB := n1_; clear n0_ n1_; (try clear hb); (try clear hb2); (try clear hk); (try clear hi); obtain ⟨⟨hcz1004_0, hcz1004_1⟩, hfz1004_0, hfz1004_1⟩ := cells2 BK118.out) | ((with_reducible refine gate_callee (f := 22) rfl ?_); refine goesL_ (some 12) rfl rfl Tryd.func22 (by kernel_rfl) rfl #[.int .i64 a0_0] rfl wT ?_; (with_reducible refine (spec_ShowAddr.calls k a0_0 t120 t121 _ A4.out).mono ?_); rintro e w1005 ⟨rfl, hb⟩; refine ⟨_, rfl, ?_⟩; have n0_ := Aside0.mk (blk_below (Bh BK118) hb); have n1_ := Aside0.mk (below_step wB hb); clear BK118; clear HB; have BK118 := n0_; have HB := n1_; clear n0_ n1_; (try clear hb); (try clear hb2); (try clear hk); (try clear hi); obtain ⟨⟨hcz1006_0, hcz1006_1⟩, hfz1006_0, hfz1006_1⟩ := cells2 BK118.out) | ((with_reducible refine gate_callee (f := 50) rfl ?_); refine goesL_ (some 19) rfl rfl Tryd.func50 (by kernel_rfl) rfl #[.int .i64 a0_1] rfl wT ?_; (with_reducible refine (spec_l02Dec.calls k a0_1 t122 _ A6.out).mono ?_); rintro e w1007 ⟨rfl, hb⟩; refine ⟨_, rfl, ?_⟩; have n0_ := Aside0.mk (blk_below (Bh BK118) hb); have n1_ := Aside0.mk (below_step wB hb); clear BK118; clear HB; have BK118 := n0_; have HB := n1_; clear n0_ n1_; (try clear hb); (try clear hb2); (try clear hk); (try clear hi)))
        go_ret2
        exact ⟨by first | rfl | (simp [errW_none, errW_some] <;> rfl) | (simp [*, errW_none, errW_some] <;> rfl), wB⟩
      · rw [if_neg c7] at H
        exact absurd H (by simp)
    · rw [if_neg c5] at H
      exact absurd H (by simp)
  · replace c3 := Bool.eq_false_iff.mpr c3
    subst c3
    have H1 : (some ((⟨#[]⟩ : ByteArray), 1)) = some (r1, r2) := by rw [if_neg (show ¬ (false = true) by decide)] at H; exact H
    clear H
    have H := H1
    clear H1
    simp only [Option.some.injEq, Prod.mk.injEq] at H
    obtain ⟨rfl, rfl⟩ := H
    go_enter Tryd.func25, Tryd.ntmps25
    go_wp2_with (first | ((with_reducible refine gate_dst (N := 1) rfl ?_); refine box_event ?hg (N := 1) ?hd (cs := #[.int .i64 a0_0, .int .i64 a0_1]) (t := 36) ?hr ?_; (case hd => rfl); (case hg => rfl); (case hr => first | (go_simp; done) | (go_simp; rfl)); intro gb118 hg w1001 hbox hb; have n0_ := Aside0.mk (below_step wB hb); have n1_ := Aside0.mk (hbox); have n2_ := Aside0.mk ((by rw [hg]; exact (below_size wB) : w.heap.size ≤ gb118)); have n3_ := Aside0.mk ((by rw [hg]; exact (below_size wB) : w.heap.size ≤ gb118)); clear HB; have HB := n0_; have BK118 := n1_; have GW118 := n2_; have GE118 := n3_; clear n0_ n1_ n2_ n3_; clear hb hbox hg; obtain ⟨⟨hcz1002_0, hcz1002_1⟩, hfz1002_0, hfz1002_1⟩ := cells2 BK118.out) | ((with_reducible refine gate_callee (f := 45) rfl ?_); refine goesL_ (some 7) rfl rfl Tryd.func45 (by kernel_rfl) rfl #[.agg #[.int .i64 a0_0, .int .i64 a0_1]] rfl wT ?_; (with_reducible refine (spec_l02PrefixOK.calls k a0_0 a0_1 false _ A2.out).mono ?_); rintro e w1003 ⟨rfl, hb⟩; refine ⟨_, rfl, ?_⟩; have n0_ := Aside0.mk (blk_below (Bh BK118) hb); have n1_ := Aside0.mk (below_step wB hb); clear BK118; clear HB; have BK118 := n0_; have HB := n1_; clear n0_ n1_; (try clear hb); (try clear hb2); (try clear hk); (try clear hi)))
    go_ret2
    exact ⟨by first | rfl | (simp [errW_none, errW_some] <;> rfl) | (simp [*, errW_none, errW_some] <;> rfl), wB⟩

end Go.Proofs.YtnnplkhjmdbmbaaDoor.PFnExactShowRoutes
