-- Written for this claim by a program of this session (wip/mkprint.py: the print, turned at a few places). Not trusted: Lean checks it.
import Derived.Test.YtmgapmpmmkmdhaaDoorPFnExactShowRulesx0
import Derived.Test.YtmgapmpmmkmdhaaDoorPFnExactShowRulesx1
namespace Go.Proofs.YtmgapmpmmkmdhaaDoor.PFnExactShowRules
open Go.RowKit Go.Proofs.YtmgapmpmmkmdhaaDoorW.PrintWords Go.Proofs.YtmgapmpmmkmdhaaDoorW.PrintLast Go.Proofs.YtmgapmpmmkmdhaaDoorW.PrintMore
attribute [local go_sem] max2_int min2_int max_two min_two max_three min_three max_four min_four   -- for this text's walks alone
set_option linter.unusedVariables false
set_option linter.unusedSimpArgs false

/-! ### spec_l09Word: function 10 -/
def spec_l09Word.f (k : Nat) (a0 : ByteArray) (a1 : Int) : Option (ByteArray) := (spec_l02Cut.f k a0 32).bind fun t130 => (if 0 ≤ a1 then (if a1 < (t130.length : Int) then (some (rdOf ByteArray.empty t130 a1)) else (none)) else (none))
theorem spec_l09Word.mono : ∀ a0 a1 k, LeO (spec_l09Word.f k a0 a1) (spec_l09Word.f (k + 1) a0 a1) := by
  intro a0 a1 k
  unfold spec_l09Word.f
  repeat' first
      | (with_reducible exact spec_l02Cut.mono _ _ _)
      | (with_reducible exact LeO.refl _)
      | (with_reducible exact LeO.none _)
      | (with_reducible refine LeO.ite ?_ ?_)
      | (with_reducible refine LeO.bind ?_ (fun _ => ?_))
      | exact spec_l02Cut.mono _ _ _
      | exact LeO.none _
      | refine LeO.ite ?_ ?_
      | refine LeO.bind ?_ (fun _ => ?_)
set_option maxHeartbeats 60000000 in
set_option maxRecDepth 100000 in
theorem spec_l09Word.calls (k : Nat) (a0 : ByteArray) (a1 : Int) (r : ByteArray) (w : World) (h : spec_l09Word.f k a0 a1 = some r) :
    Calls Tryd.prog 10 #[.string a0, .int .i64 a1] w fun e w' => e = .returned (.string r) ∧ Below w.heap.size w w' := by
  have HB := Aside0.mk (Below.refl w.heap.size w)
  have H : ((spec_l02Cut.f k a0 32).bind fun t130 => (if 0 ≤ a1 then (if a1 < (t130.length : Int) then (some (rdOf ByteArray.empty t130 a1)) else (none)) else (none))) = some r := h
  clear h
  replace H := Option.bind_eq_some_iff.mp H
  obtain ⟨t130, A30, H⟩ := H
  replace H : (if 0 ≤ a1 then (if a1 < (t130.length : Int) then (some (rdOf ByteArray.empty t130 a1)) else (none)) else (none)) = some r := H
  have A3 := Aside0.mk A30
  clear A30
  by_cases c4 : 0 ≤ a1
  · rw [if_pos c4] at H
    have c4b0 : decide (0 ≤ a1) = true := decide_eq_true c4
    clear c4
    by_cases c5 : a1 < (t130.length : Int)
    · rw [if_pos c5] at H
      have c5b0 : decide (a1 < (t130.length : Int)) = true := decide_eq_true c5
      clear c5
      obtain rfl := Option.some.inj H
      go_enter Tryd.func10, Tryd.ntmps10
      go_wp2_with (first | ((with_reducible refine gate_callee (f := 21) rfl ?_); refine goesL_ (some 6) rfl rfl Tryd.func21 (by kernel_rfl) rfl #[.string a0, .int .u8 32] rfl wT ?_; (with_reducible refine (spec_l02Cut.calls k a0 32 t130 _ A3.out).mono ?_); rintro e w1001 ⟨v131, rfl, ho0, hb⟩; refine ⟨_, rfl, ?_⟩; have n0_ := Aside0.mk (Kd.R_lower ho0 (below_size wB)); have n1_ := Aside0.mk (below_step wB hb); clear HB; have HO132 := n0_; have HB := n1_; clear n0_ n1_; (try clear hb); (try clear hb2); (try clear hk); (try clear hi); (try clear ho0); obtain ⟨Ao1002, co1002, eo1002⟩ := Kd.R_slice HO132.out; subst eo1002; have p133 : 0 ≤ (a1 : Int) := of_decide_eq_true (by first | (with_reducible assumption) | assumption); have q133 : a1 < (t130.length : Int) := of_decide_eq_true (by first | (with_reducible assumption) | assumption); obtain ⟨ad133, e133, hx133_0⟩ := Kd.at_string (Kd.R_reads' HO132.out).2.2 a1 p133 q133; cases e133; replace p133 := eq_true p133; replace q133 := eq_true q133))
      go_ret
      exact ⟨by first | rfl | (simp [errW_none, errW_some] <;> rfl) | (simp [*, errW_none, errW_some] <;> rfl), wB⟩
    · rw [if_neg c5] at H
      exact absurd H (by simp)
  · rw [if_neg c4] at H
    exact absurd H (by simp)

/-! ### spec_l09ProtoName: function 11 -/
def spec_l09ProtoName.f (a0 : Int) : Option (ByteArray) := if a0 = 1 then (some (⟨#[105, 99, 109, 112]⟩ : ByteArray)) else (if a0 = 6 then (some (⟨#[116, 99, 112]⟩ : ByteArray)) else (if a0 = 17 then (some (⟨#[117, 100, 112]⟩ : ByteArray)) else (some (⟨#[97, 110, 121]⟩ : ByteArray))))
set_option maxHeartbeats 60000000 in
set_option maxRecDepth 100000 in
theorem spec_l09ProtoName.calls (a0 : Int) (r : ByteArray) (w : World) (h : spec_l09ProtoName.f a0 = some r) :
    Calls Tryd.prog 11 #[.int .i64 a0] w fun e w' => e = .returned (.string r) ∧ Drawn0 w w' := by
  have H : (if a0 = 1 then (some (⟨#[105, 99, 109, 112]⟩ : ByteArray)) else (if a0 = 6 then (some (⟨#[116, 99, 112]⟩ : ByteArray)) else (if a0 = 17 then (some (⟨#[117, 100, 112]⟩ : ByteArray)) else (some (⟨#[97, 110, 121]⟩ : ByteArray))))) = some r := h
  clear h
  by_cases c2 : a0 = 1
  · rw [if_pos c2] at H
    have c2b0 : (a0 == 1) = true := beq_iff_eq.mpr c2
    have c2b1 : (a0 != 1) = false := bne_eq_false_iff_eq.mpr c2
    clear c2
    obtain rfl := Option.some.inj H
    go_enter Tryd.func11, Tryd.ntmps11
    go_wp2
    go_ret
    exact ⟨by first | rfl | (simp; done) | (simp [*]; done), by repeat (first | exact Drawn0.refl _ | apply Drawn0.step)⟩
  · rw [if_neg c2] at H
    have c2b0 : (a0 == 1) = false := beq_eq_false_iff_ne.mpr c2
    have c2b1 : (a0 != 1) = true := bne_iff_ne.mpr c2
    by_cases c3 : a0 = 6
    · rw [if_pos c3] at H
      have c3b0 : (a0 == 6) = true := beq_iff_eq.mpr c3
      have c3b1 : (a0 != 6) = false := bne_eq_false_iff_eq.mpr c3
      clear c3
      obtain rfl := Option.some.inj H
      go_enter Tryd.func11, Tryd.ntmps11
      go_wp2
      go_ret
      exact ⟨by first | rfl | (simp; done) | (simp [*]; done), by repeat (first | exact Drawn0.refl _ | apply Drawn0.step)⟩
    · rw [if_neg c3] at H
      have c3b0 : (a0 == 6) = false := beq_eq_false_iff_ne.mpr c3
      have c3b1 : (a0 != 6) = true := bne_iff_ne.mpr c3
      by_cases c4 : a0 = 17
      · rw [if_pos c4] at H
        have c4b0 : (a0 == 17) = true := beq_iff_eq.mpr c4
        have c4b1 : (a0 != 17) = false := bne_eq_false_iff_eq.mpr c4
        clear c4
        obtain rfl := Option.some.inj H
        go_enter Tryd.func11, Tryd.ntmps11
        go_wp2
        go_ret
        exact ⟨by first | rfl | (simp; done) | (simp [*]; done), by repeat (first | exact Drawn0.refl _ | apply Drawn0.step)⟩
      · rw [if_neg c4] at H
        have c4b0 : (a0 == 17) = false := beq_eq_false_iff_ne.mpr c4
        have c4b1 : (a0 != 17) = true := bne_iff_ne.mpr c4
        obtain rfl := Option.some.inj H
        go_enter Tryd.func11, Tryd.ntmps11
        go_wp2
        go_ret
        exact ⟨by first | rfl | (simp; done) | (simp [*]; done), by repeat (first | exact Drawn0.refl _ | apply Drawn0.step)⟩

/-! ### spec_l02Dec: function 23 -/
def spec_l02Dec.f : Nat → Int → Option (ByteArray)
  | 0, _ => none
  | k + 1, a0 => if a0 < 10 then (some (strOfNums (([(wrap64 (48 + a0)) % 256] : List Int)))) else ((spec_l02Dec.f k (wrap64 (Int.tdiv a0 10))).bind fun t137 => ((some (([(wrap64 (48 + (Int.tmod a0 10))) % 256] : List Int) : List Int)).bind fun y138 => (if t137.size + (strOfNums y138).size ≤ 9223372036854775807 then (some (t137 ++ (strOfNums y138))) else (none))))
theorem spec_l02Dec.mono_l : ∀ k, (∀ y0, LeO (spec_l02Dec.f k y0) (spec_l02Dec.f (k + 1) y0))
  | 0 => fun _ r h => by simp [spec_l02Dec.f] at h
  | k + 1 => by
    have ih0 := spec_l02Dec.mono_l k
    · intro y0
      unfold spec_l02Dec.f
      repeat' first
      | (with_reducible exact ih0 _)
      | (with_reducible exact LeO.refl _)
      | (with_reducible exact LeO.none _)
      | (with_reducible refine LeO.ite ?_ ?_)
      | (with_reducible refine LeO.bind ?_ (fun _ => ?_))
      | exact ih0 _
      | exact LeO.none _
      | refine LeO.ite ?_ ?_
      | refine LeO.bind ?_ (fun _ => ?_)
theorem spec_l02Dec.mono : ∀ a0 k, LeO (spec_l02Dec.f k a0) (spec_l02Dec.f (k + 1) a0) := by
 intro a0 k
 have ih0 := spec_l02Dec.mono_l k
 exact ih0 a0
def spec_l02Dec.T3 : Bool × List (List Nat × List Nat) := (true, [([], []), ([0], [0]), ([1], [1]), ([], []), ([3], [3]), ([4], [4]), ([5], [5]), ([6], [6]), ([7], [7]), ([2, 8], [2, 8]), ([9, 2, 0, 1, 2, 3, 4, 5, 6, 7, 8, 9], [9])])
def spec_l02Dec.B3 : List Nat := [0, 1, 3, 0, 8, 24, 56, 120, 248, 511, 1023]
theorem spec_l02Dec.tab3 : rtab .any (opsOf Tryd.f23 3) = spec_l02Dec.T3 := by kernel_rfl
theorem spec_l02Dec.bits3 : waitsOk spec_l02Dec.T3.2 spec_l02Dec.B3 = true := by kernel_rfl
set_option maxHeartbeats 60000000 in
set_option maxRecDepth 100000 in
theorem spec_l02Dec.calls (k : Nat) : ∀ (a0 : Int) (r : ByteArray) (w : World) (h : spec_l02Dec.f k a0 = some r),
 Calls Tryd.prog 23 #[.int .i64 a0] w fun e w' => e = .returned (.string r) ∧ Below w.heap.size w w' := by
 induction k using Nat.strongRecOn with
 | _ k ih =>
 intro a0 r w h
 cases k with
 | zero => exact absurd h (by simp [spec_l02Dec.f])
 | succ k =>
 simp only [spec_l02Dec.f] at h
 have HB := Aside0.mk (Below.refl w.heap.size w)
 have H : (if a0 < 10 then (some (strOfNums (([(wrap64 (48 + a0)) % 256] : List Int)))) else ((spec_l02Dec.f k (wrap64 (Int.tdiv a0 10))).bind fun t137 => ((some (([(wrap64 (48 + (Int.tmod a0 10))) % 256] : List Int) : List Int)).bind fun y138 => (if t137.size + (strOfNums y138).size ≤ 9223372036854775807 then (some (t137 ++ (strOfNums y138))) else (none))))) = some r := h
 clear h
 by_cases c2 : a0 < 10
 {
 rw [if_pos c2] at H
 have c2b0 : decide (a0 < 10) = true := decide_eq_true c2
 clear c2
 obtain ⟨y134, hy134⟩ : ∃ y_ : List Int, y_ = (([(wrap64 (48 + a0)) % 256] : List Int)) := ⟨_, rfl⟩
 replace H : (some (strOfNums y134)) = some r := by first | (rw [hy134]; with_reducible exact H) | (have H2_ := (Option.bind_some _ _).symm.trans H; rw [hy134]; with_reducible exact H2_) | (have H2_ := (Option.bind_some _ _).symm.trans H; with_reducible exact H2_) | with_reducible exact H | (rw [hy134]; exact H) | exact H
 have Ny134 := Aside0.mk hy134
 clear hy134
 obtain rfl := Option.some.inj H
 go_enter Tryd.func23, Tryd.ntmps23
 go_wp2_with (first | ((with_reducible refine gate_dst (N := 8) rfl ?_); refine Kd.R_lit (Kd.int .u8) _ 5 ?hg (N := 8) ?hd (xs := ([(wrap64 (48 + a0)) % 256] : List Int)) (inner := [.int .u8 ((wrap64 (48 + a0)) % 256)]) (ok := fun _ => True) (okp := fun _ => True) ?hr ?hp (fun _ hk => hk) trivial (Below.refl _ _) (Nat.le_refl _) (by simp) ?_; (case hd => rfl); (case hg => rfl); (case hr => first | (go_simp; done) | (go_simp; rfl)); (case hp => exact (Reps.one (show Kd.M (Kd.int .u8) _ _ _ ((wrap64 (48 + a0)) % 256) [.int .u8 ((wrap64 (48 + a0)) % 256)] from rfl) (Reps.none _ _))); intro v135 w1001 ho1002 hb hg_ hnew_; clear hg_ hnew_; (first | rw [← Ny134.out] at ho1002 | (simp only [Int.reduceToNat] at ho1002; rw [← Ny134.out] at ho1002)); have n0_ := Aside0.mk (Kd.R_lower ho1002 (below_size wB)); have n1_ := Aside0.mk (below_step wB hb); clear HB; have HO136 := n0_; have HB := n1_; clear n0_ n1_; clear hb ho1002; have hcv1003 := own_string (P := Tryd.prog) Tryd.underlying57 Tryd.underlying5 Tryd.underlying9 (Kd.own_of_R HO136.out)))
 go_ret
 exact ⟨by first | rfl | (simp [errW_none, errW_some] <;> rfl) | (simp [*, errW_none, errW_some] <;> rfl), wB⟩
 }
 {
 rw [if_neg c2] at H
 have c2b0 : decide (a0 < 10) = false := decide_eq_false c2
 clear c2
 replace H := Option.bind_eq_some_iff.mp H
 obtain ⟨t137, A30, H⟩ := H
 replace H : ((some (([(wrap64 (48 + (Int.tmod a0 10))) % 256] : List Int) : List Int)).bind fun y138 => (if t137.size + (strOfNums y138).size ≤ 9223372036854775807 then (some (t137 ++ (strOfNums y138))) else (none))) = some r := H
 have A3 := Aside0.mk A30
 clear A30
 obtain ⟨y138, hy138⟩ : ∃ y_ : List Int, y_ = (([(wrap64 (48 + (Int.tmod a0 10))) % 256] : List Int)) := ⟨_, rfl⟩
 replace H : (if t137.size + (strOfNums y138).size ≤ 9223372036854775807 then (some (t137 ++ (strOfNums y138))) else (none)) = some r := by first | (rw [hy138]; with_reducible exact H) | (have H2_ := (Option.bind_some _ _).symm.trans H; rw [hy138]; with_reducible exact H2_) | (have H2_ := (Option.bind_some _ _).symm.trans H; with_reducible exact H2_) | with_reducible exact H | (rw [hy138]; exact H) | exact H
 have Ny138 := Aside0.mk hy138
 clear hy138
 by_cases c4 : t137.size + (strOfNums y138).size ≤ 9223372036854775807
 {
 rw [if_pos c4] at H
 have c4b0 := eq_true c4
 have c4b1 : decide (t137.size + (strOfNums y138).size ≤ 9223372036854775807) = true := decide_eq_true c4
 try have c4b2 : (9223372036854775807 < t137.size + (strOfNums y138).size) = False := eq_false (Nat.not_lt.2 c4)
 obtain rfl := Option.some.inj H
 go_enter Tryd.func23, Tryd.ntmps23
 try go_wp2
 have n0_ := Aside0.mk (below_drew1 HB.out)
 clear HB
 have HB := n0_
 clear n0_
 refine start_ (n := 11) (S := fun w' => True) (ds := []) #[false, false, false, false, false, false, false, false, false, false, false] (by kernel_rfl) rfl rfl trivial (fun hHeld => ?_); refine with_tabW spec_l02Dec.tab3 spec_l02Dec.bits3 (fun HT_ HW_ => ?_)
 generalize w.drew = w1001 at HB hHeld ⊢
 refine pure_ (i := 0) (N := some 10) (v := ?_) (a' := ?_) #[true, false, false, false, false, false, false, false, false, false, false] rfl rfl (any_of HT_.out (by kernel_rfl)) (fun _ _ _ h => h) (Or.inl ⟨by rfl, ?_⟩) ?_ ?_
 rotate_left
 {
 intro w'
 go_simp
 with_reducible rfl
 }
 rotate_left
 {
 simp only [Act.put, List.setIfInBounds_toArray, List.set_cons_zero, List.set_cons_succ, i64_w, i32_w]
 rfl
 }
 refine pure_ (i := 1) (N := some 11) (v := ?_) (a' := ?_) #[true, true, false, false, false, false, false, false, false, false, false] rfl rfl (any_of HT_.out (by kernel_rfl)) (fun _ _ _ h => h) (Or.inl ⟨by rfl, ?_⟩) ?_ ?_
 rotate_left
 {
 intro w'
 go_simp
 with_reducible rfl
 }
 rotate_left
 {
 simp only [Act.put, List.setIfInBounds_toArray, List.set_cons_zero, List.set_cons_succ, i64_w, i32_w]
 rfl
 }
 refine pure_ (i := 3) (N := some 13) (v := ?_) (a' := ?_) #[true, true, false, true, false, false, false, false, false, false, false] rfl rfl (any_of HT_.out (by kernel_rfl)) (fun _ _ _ h => h) (Or.inl ⟨by rfl, ?_⟩) ?_ ?_
 rotate_left
 {
 intro w'
 go_simp
 with_reducible rfl
 }
 rotate_left
 {
 simp only [Act.put, List.setIfInBounds_toArray, List.set_cons_zero, List.set_cons_succ, i64_w, i32_w]
 rfl
 }
 refine pure_ (i := 4) (N := some 14) (v := ?_) (a' := ?_) #[true, true, false, true, true, false, false, false, false, false, false] rfl rfl (any_of HT_.out (by kernel_rfl)) (fun _ _ _ h => h) (Or.inl ⟨by rfl, ?_⟩) ?_ ?_
 rotate_left
 {
 intro w'
 go_simp
 with_reducible rfl
 }
 rotate_left
 {
 simp only [Act.put, List.setIfInBounds_toArray, List.set_cons_zero, List.set_cons_succ, i64_w, i32_w]
 rfl
 }
 refine pure_ (i := 5) (N := some 15) (v := ?_) (a' := ?_) #[true, true, false, true, true, true, false, false, false, false, false] rfl rfl (any_of HT_.out (by kernel_rfl)) (fun _ _ _ h => h) (Or.inl ⟨by rfl, ?_⟩) ?_ ?_
 rotate_left
 {
 intro w'
 go_simp
 with_reducible rfl
 }
 rotate_left
 {
 simp only [Act.put, List.setIfInBounds_toArray, List.set_cons_zero, List.set_cons_succ, i64_w, i32_w]
 rfl
 }
 refine pure_ (i := 6) (N := some 16) (v := ?_) (a' := ?_) #[true, true, false, true, true, true, true, false, false, false, false] rfl rfl (any_of HT_.out (by kernel_rfl)) (fun _ _ _ h => h) (Or.inl ⟨by rfl, ?_⟩) ?_ ?_
 rotate_left
 {
 intro w'
 go_simp
 with_reducible rfl
 }
 rotate_left
 {
 simp only [Act.put, List.setIfInBounds_toArray, List.set_cons_zero, List.set_cons_succ, i64_w, i32_w]
 rfl
 }
 refine join_ (σ := Value) 2 #[true, true, true, true, true, true, true, true, true, false, false] (fun s_ => [(12, .string t137), (17, s_), (18, .string (strOfNums y138))]) (fun s_ w' => (Kd.R (Kd.int .u8) 5 w' w.heap.size (fun _ => True) s_ y138) ∧ (Below w.heap.size w w')) ?_ ?_
 rotate_left
 {
 intro hCont
 refine two_ (i := 2) (j := 7) (Ni := some 12) (Nj := some 17) #[true, true, true, true, true, true, true, false, false, false, false] #[true, true, false, true, true, true, true, true, false, false, false] rfl rfl rfl rfl (two_of HT_.out (by kernel_rfl)) (by decide) (by decide) (fun K hK => ?_) (fun K hK => ?_)
 {
 skip
 refine goes_ Tryd.func23 (by kernel_rfl) rfl #[.int .i64 (wrap64 (Int.tdiv a0 10))] (by rfl) rfl rfl wT ?_
 with_reducible refine (ih k (by omega) (wrap64 (Int.tdiv a0 10)) t137 _ A3.out).mono ?_
 rintro e w1002 ⟨rfl, hb⟩
 refine ⟨_, rfl, ?_⟩
 have n0_ := Aside0.mk (below_step wB hb)
 clear HB
 have HB := n0_
 clear n0_
 (try clear hb)
 (try clear hb2)
 (try clear hk)
 (try clear hi)
 refine hK.out _ _ trivial (fun hHeld => ?_)
 clear hK K
 refine norm_ (a' := ?_) ?_ ?_
 rotate_left
 {
 show Act.put _ (some 12) _ = _
 simp only [Act.put, List.setIfInBounds_toArray, List.set_cons_zero, List.set_cons_succ, i64_w, i32_w]
 rfl
 }
 refine one_ (i := 7) (N := some 17) #[true, true, true, true, true, true, true, true, false, false, false] rfl rfl (one_of HT_.out (by kernel_rfl)) (by decide) (fun K hK => ?_)
 refine Kd.R_lit_step (Kd.int .u8) _ 5 ?hg (N := 17) ?hd (xs := ([(wrap64 (48 + (Int.tmod a0 10))) % 256] : List Int)) (inner := [.int .u8 ((wrap64 (48 + (Int.tmod a0 10))) % 256)]) (ok := fun _ => True) (okp := fun _ => True) ?hr ?hp (fun _ hk => hk) trivial (Below.refl _ _) (Nat.le_refl _) (by simp) ?_; (case hd => rfl); (case hg => rfl); (case hr => first | (go_simp; done) | (go_simp; rfl)); (case hp => exact (Reps.one (show Kd.M (Kd.int .u8) _ _ _ ((wrap64 (48 + (Int.tmod a0 10))) % 256) [.int .u8 ((wrap64 (48 + (Int.tmod a0 10))) % 256)] from rfl) (Reps.none _ _)))
 intro v139 w1003 ho1004 hb hg_ hnew_
 clear hg_ hnew_
 (first | rw [← Ny138.out] at ho1004 | (simp only [Int.reduceToNat] at ho1004; rw [← Ny138.out] at ho1004))
 have n0_ := Aside0.mk (Kd.R_lower ho1004 (below_size wB))
 have n1_ := Aside0.mk (below_step wB hb)
 clear HB
 have HO140 := n0_
 have HB := n1_
 clear n0_ n1_
 clear hb ho1004
 refine hK.out _ _ trivial (fun hHeld => ?_)
 clear hK K
 refine norm_ (a' := ?_) ?_ ?_
 rotate_left
 {
 show Act.put _ (some 17) _ = _
 simp only [Act.put, List.setIfInBounds_toArray, List.set_cons_zero, List.set_cons_succ, i64_w, i32_w]
 rfl
 }
 refine one_ (i := 8) (N := some 18) #[true, true, true, true, true, true, true, true, true, false, false] rfl rfl (one_of HT_.out (by kernel_rfl)) (by decide) (fun K hK => ?_)
 have hcv1005 := own_string (P := Tryd.prog) Tryd.underlying57 Tryd.underlying5 Tryd.underlying9 (Kd.own_of_R HO140.out)
 refine value_ (w1 := ?_) (v := ?_) (by rfl) rfl ?_ ?_
 rotate_left 2
 {
 go_simp
 constructor
 {
 rfl
 }
 {
 rfl
 }
 }
 clear hcv1005
 refine hK.out _ _ trivial (fun hHeld => ?_)
 clear hK K
 refine norm_ (a' := ?_) ?_ ?_
 rotate_left
 {
 show Act.put _ (some 18) _ = _
 simp only [Act.put, List.setIfInBounds_toArray, List.set_cons_zero, List.set_cons_succ, i64_w, i32_w]
 rfl
 }
 exact norm_ (by simp only [putAll, Act.put, List.setIfInBounds_toArray, List.set_cons_zero, List.set_cons_succ]) (hCont (v139) _ ⟨(Rh HO140), wB⟩)
 }
 {
 skip
 refine Kd.R_lit_step (Kd.int .u8) _ 5 ?hg (N := 17) ?hd (xs := ([(wrap64 (48 + (Int.tmod a0 10))) % 256] : List Int)) (inner := [.int .u8 ((wrap64 (48 + (Int.tmod a0 10))) % 256)]) (ok := fun _ => True) (okp := fun _ => True) ?hr ?hp (fun _ hk => hk) trivial (Below.refl _ _) (Nat.le_refl _) (by simp) ?_; (case hd => rfl); (case hg => rfl); (case hr => first | (go_simp; done) | (go_simp; rfl)); (case hp => exact (Reps.one (show Kd.M (Kd.int .u8) _ _ _ ((wrap64 (48 + (Int.tmod a0 10))) % 256) [.int .u8 ((wrap64 (48 + (Int.tmod a0 10))) % 256)] from rfl) (Reps.none _ _)))
 intro v139 w1002 ho1003 hb hg_ hnew_
 clear hg_ hnew_
 (first | rw [← Ny138.out] at ho1003 | (simp only [Int.reduceToNat] at ho1003; rw [← Ny138.out] at ho1003))
 have n0_ := Aside0.mk (Kd.R_lower ho1003 (below_size wB))
 have n1_ := Aside0.mk (below_step wB hb)
 clear HB
 have HO140 := n0_
 have HB := n1_
 clear n0_ n1_
 clear hb ho1003
 refine hK.out _ _ trivial (fun hHeld => ?_)
 clear hK K
 refine norm_ (a' := ?_) ?_ ?_
 rotate_left
 {
 show Act.put _ (some 17) _ = _
 simp only [Act.put, List.setIfInBounds_toArray, List.set_cons_zero, List.set_cons_succ, i64_w, i32_w]
 rfl
 }
 refine two_ (i := 2) (j := 8) (Ni := some 12) (Nj := some 18) #[true, true, true, true, true, true, true, true, false, false, false] #[true, true, false, true, true, true, true, true, true, false, false] rfl rfl rfl rfl (two_of HT_.out (by kernel_rfl)) (by decide) (by decide) (fun K hK => ?_) (fun K hK => ?_)
 {
 skip
 refine goes_ Tryd.func23 (by kernel_rfl) rfl #[.int .i64 (wrap64 (Int.tdiv a0 10))] (by rfl) rfl rfl wT ?_
 with_reducible refine (ih k (by omega) (wrap64 (Int.tdiv a0 10)) t137 _ A3.out).mono ?_
 rintro e w1004 ⟨rfl, hb⟩
 refine ⟨_, rfl, ?_⟩
 have n0_ := Aside0.mk (Kd.R_below (Rh HO140) hb)
 have n1_ := Aside0.mk (below_step wB hb)
 clear HO140
 clear HB
 have HO140 := n0_
 have HB := n1_
 clear n0_ n1_
 (try clear hb)
 (try clear hb2)
 (try clear hk)
 (try clear hi)
 refine hK.out _ _ trivial (fun hHeld => ?_)
 clear hK K
 refine norm_ (a' := ?_) ?_ ?_
 rotate_left
 {
 show Act.put _ (some 12) _ = _
 simp only [Act.put, List.setIfInBounds_toArray, List.set_cons_zero, List.set_cons_succ, i64_w, i32_w]
 rfl
 }
 refine one_ (i := 8) (N := some 18) #[true, true, true, true, true, true, true, true, true, false, false] rfl rfl (one_of HT_.out (by kernel_rfl)) (by decide) (fun K hK => ?_)
 have hcv1005 := own_string (P := Tryd.prog) Tryd.underlying57 Tryd.underlying5 Tryd.underlying9 (Kd.own_of_R HO140.out)
 refine value_ (w1 := ?_) (v := ?_) (by rfl) rfl ?_ ?_
 rotate_left 2
 {
 go_simp
 constructor
 {
 rfl
 }
 {
 rfl
 }
 }
 clear hcv1005
 refine hK.out _ _ trivial (fun hHeld => ?_)
 clear hK K
 refine norm_ (a' := ?_) ?_ ?_
 rotate_left
 {
 show Act.put _ (some 18) _ = _
 simp only [Act.put, List.setIfInBounds_toArray, List.set_cons_zero, List.set_cons_succ, i64_w, i32_w]
 rfl
 }
 exact norm_ (by simp only [putAll, Act.put, List.setIfInBounds_toArray, List.set_cons_zero, List.set_cons_succ]) (hCont (v139) _ ⟨(Rh HO140), wB⟩)
 }
 {
 skip
 have hcv1004 := own_string (P := Tryd.prog) Tryd.underlying57 Tryd.underlying5 Tryd.underlying9 (Kd.own_of_R HO140.out)
 refine value_ (w1 := ?_) (v := ?_) (by rfl) rfl ?_ ?_
 rotate_left 2
 {
 go_simp
 constructor
 {
 rfl
 }
 {
 rfl
 }
 }
 clear hcv1004
 refine hK.out _ _ trivial (fun hHeld => ?_)
 clear hK K
 refine norm_ (a' := ?_) ?_ ?_
 rotate_left
 {
 show Act.put _ (some 18) _ = _
 simp only [Act.put, List.setIfInBounds_toArray, List.set_cons_zero, List.set_cons_succ, i64_w, i32_w]
 rfl
 }
 refine one_ (i := 2) (N := some 12) #[true, true, true, true, true, true, true, true, true, false, false] rfl rfl (one_of HT_.out (by kernel_rfl)) (by decide) (fun K hK => ?_)
 refine goes_ Tryd.func23 (by kernel_rfl) rfl #[.int .i64 (wrap64 (Int.tdiv a0 10))] (by rfl) rfl rfl wT ?_
 with_reducible refine (ih k (by omega) (wrap64 (Int.tdiv a0 10)) t137 _ A3.out).mono ?_
 rintro e w1005 ⟨rfl, hb⟩
 refine ⟨_, rfl, ?_⟩
 have n0_ := Aside0.mk (Kd.R_below (Rh HO140) hb)
 have n1_ := Aside0.mk (below_step wB hb)
 clear HO140
 clear HB
 have HO140 := n0_
 have HB := n1_
 clear n0_ n1_
 (try clear hb)
 (try clear hb2)
 (try clear hk)
 (try clear hi)
 refine hK.out _ _ trivial (fun hHeld => ?_)
 clear hK K
 refine norm_ (a' := ?_) ?_ ?_
 rotate_left
 {
 show Act.put _ (some 12) _ = _
 simp only [Act.put, List.setIfInBounds_toArray, List.set_cons_zero, List.set_cons_succ, i64_w, i32_w]
 rfl
 }
 exact norm_ (by simp only [putAll, Act.put, List.setIfInBounds_toArray, List.set_cons_zero, List.set_cons_succ]) (hCont (v139) _ ⟨(Rh HO140), wB⟩)
 }
 }
 }
 rintro v139 w1006 ⟨h0_, h1_⟩
 have n0_ : Aside0 (Kd.R (Kd.int .u8) 5 w1006 w.heap.size (fun _ => True) v139 y138) := ⟨h0_⟩
 have n1_ : Aside0 (Below w.heap.size w w1006) := ⟨h1_⟩
 clear HB
 clear h0_ h1_
 have HO140 := n0_
 have HB := n1_
 clear n0_ n1_
 have hHeld := trivial
 refine norm_ (a' := ?_) ?_ ?_
 rotate_left
 {
 simp only [putAll, Act.put, List.setIfInBounds_toArray, List.set_cons_zero, List.set_cons_succ]
 rfl
 }
 refine pure_ (i := 9) (N := some 19) (v := ?_) (a' := ?_) #[true, true, true, true, true, true, true, true, true, true, false] rfl rfl (any_of HT_.out (by kernel_rfl)) (fun _ _ _ h => h) (Or.inl ⟨by rfl, ?_⟩) ?_ ?_
 rotate_left
 {
 intro w'
 go_simp
 with_reducible rfl
 }
 rotate_left
 {
 simp only [Act.put, List.setIfInBounds_toArray, List.set_cons_zero, List.set_cons_succ, i64_w, i32_w]
 rfl
 }
 refine pure_ (i := 10) (N := some 2) (v := ?_) (a' := ?_) #[true, true, true, true, true, true, true, true, true, true, true] rfl rfl (any_of HT_.out (by kernel_rfl)) (fun _ _ _ h => h) (Or.inl ⟨by rfl, ?_⟩) ?_ ?_
 rotate_left
 {
 intro w'
 go_simp
 with_reducible rfl
 }
 rotate_left
 {
 simp only [Act.put, List.setIfInBounds_toArray, List.set_cons_zero, List.set_cons_succ, i64_w, i32_w]
 rfl
 }
 refine done_ (done_of HT_.out (by kernel_rfl)) ?_
 try go_wp2
 go_ret
 exact ⟨by first | rfl | (simp [errW_none, errW_some] <;> rfl) | (simp [*, errW_none, errW_some] <;> rfl), wB⟩
 }
 {
 rw [if_neg c4] at H
 exact absurd H (by simp)
 }
 }

/-! ### spec_ShowAddr: function 32 -/
def spec_ShowAddr.f (k : Nat) (a0 : Int) : Option (ByteArray × Int) := (spec_l02AddrOK.f a0).bind fun t141 => (if t141 = true then ((spec_l02Dec.f k (a0 / 16777216)).bind fun t142 => (if t142.size + 1 ≤ 9223372036854775807 then ((spec_l02Dec.f k (Go.bits .and .i64 (a0 / 65536) 255)).bind fun t143 => (if (t142 ++ (⟨#[46]⟩ : ByteArray)).size + t143.size ≤ 9223372036854775807 then (if ((t142 ++ (⟨#[46]⟩ : ByteArray)) ++ t143).size + 1 ≤ 9223372036854775807 then ((spec_l02Dec.f k (Go.bits .and .i64 (a0 / 256) 255)).bind fun t144 => (if (((t142 ++ (⟨#[46]⟩ : ByteArray)) ++ t143) ++ (⟨#[46]⟩ : ByteArray)).size + t144.size ≤ 9223372036854775807 then (if ((((t142 ++ (⟨#[46]⟩ : ByteArray)) ++ t143) ++ (⟨#[46]⟩ : ByteArray)) ++ t144).size + 1 ≤ 9223372036854775807 then ((spec_l02Dec.f k (Go.bits .and .i64 a0 255)).bind fun t145 => (if (((((t142 ++ (⟨#[46]⟩ : ByteArray)) ++ t143) ++ (⟨#[46]⟩ : ByteArray)) ++ t144) ++ (⟨#[46]⟩ : ByteArray)).size + t145.size ≤ 9223372036854775807 then (some ((((((t142 ++ (⟨#[46]⟩ : ByteArray)) ++ t143) ++ (⟨#[46]⟩ : ByteArray)) ++ t144) ++ (⟨#[46]⟩ : ByteArray)) ++ t145, 0)) else (none))) else (none)) else (none))) else (none)) else (none))) else (none))) else (some ((⟨#[]⟩ : ByteArray), 1)))
theorem spec_ShowAddr.mono : ∀ a0 k, LeO (spec_ShowAddr.f k a0) (spec_ShowAddr.f (k + 1) a0) := by
  intro a0 k
  unfold spec_ShowAddr.f
  repeat' first
      | (with_reducible exact spec_l02Dec.mono _ _)
      | (with_reducible exact LeO.refl _)
      | (with_reducible exact LeO.none _)
      | (with_reducible refine LeO.ite ?_ ?_)
      | (with_reducible refine LeO.bind ?_ (fun _ => ?_))
      | exact spec_l02Dec.mono _ _
      | exact LeO.none _
      | refine LeO.ite ?_ ?_
      | refine LeO.bind ?_ (fun _ => ?_)
set_option maxHeartbeats 60000000 in
set_option maxRecDepth 100000 in
theorem spec_ShowAddr.calls (k : Nat) (a0 : Int) (r1 : ByteArray) (r2 : Int) (w : World) (h : spec_ShowAddr.f k a0 = some (r1, r2)) :
    Calls Tryd.prog 32 #[.int .i64 a0] w fun e w' => e = .returned (.tuple #[.string r1, .int .i64 r2]) ∧ Below w.heap.size w w' := by
  have HB := Aside0.mk (Below.refl w.heap.size w)
  have H : ((spec_l02AddrOK.f a0).bind fun t141 => (if t141 = true then ((spec_l02Dec.f k (a0 / 16777216)).bind fun t142 => (if t142.size + 1 ≤ 9223372036854775807 then ((spec_l02Dec.f k (Go.bits .and .i64 (a0 / 65536) 255)).bind fun t143 => (if (t142 ++ (⟨#[46]⟩ : ByteArray)).size + t143.size ≤ 9223372036854775807 then (if ((t142 ++ (⟨#[46]⟩ : ByteArray)) ++ t143).size + 1 ≤ 9223372036854775807 then ((spec_l02Dec.f k (Go.bits .and .i64 (a0 / 256) 255)).bind fun t144 => (if (((t142 ++ (⟨#[46]⟩ : ByteArray)) ++ t143) ++ (⟨#[46]⟩ : ByteArray)).size + t144.size ≤ 9223372036854775807 then (if ((((t142 ++ (⟨#[46]⟩ : ByteArray)) ++ t143) ++ (⟨#[46]⟩ : ByteArray)) ++ t144).size + 1 ≤ 9223372036854775807 then ((spec_l02Dec.f k (Go.bits .and .i64 a0 255)).bind fun t145 => (if (((((t142 ++ (⟨#[46]⟩ : ByteArray)) ++ t143) ++ (⟨#[46]⟩ : ByteArray)) ++ t144) ++ (⟨#[46]⟩ : ByteArray)).size + t145.size ≤ 9223372036854775807 then (some ((((((t142 ++ (⟨#[46]⟩ : ByteArray)) ++ t143) ++ (⟨#[46]⟩ : ByteArray)) ++ t144) ++ (⟨#[46]⟩ : ByteArray)) ++ t145, 0)) else (none))) else (none)) else (none))) else (none)) else (none))) else (none))) else (some ((⟨#[]⟩ : ByteArray), 1)))) = some (r1, r2) := h
  clear h
  replace H := Option.bind_eq_some_iff.mp H
  obtain ⟨t141, A20, H⟩ := H
  replace H : (if t141 = true then ((spec_l02Dec.f k (a0 / 16777216)).bind fun t142 => (if t142.size + 1 ≤ 9223372036854775807 then ((spec_l02Dec.f k (Go.bits .and .i64 (a0 / 65536) 255)).bind fun t143 => (if (t142 ++ (⟨#[46]⟩ : ByteArray)).size + t143.size ≤ 9223372036854775807 then (if ((t142 ++ (⟨#[46]⟩ : ByteArray)) ++ t143).size + 1 ≤ 9223372036854775807 then ((spec_l02Dec.f k (Go.bits .and .i64 (a0 / 256) 255)).bind fun t144 => (if (((t142 ++ (⟨#[46]⟩ : ByteArray)) ++ t143) ++ (⟨#[46]⟩ : ByteArray)).size + t144.size ≤ 9223372036854775807 then (if ((((t142 ++ (⟨#[46]⟩ : ByteArray)) ++ t143) ++ (⟨#[46]⟩ : ByteArray)) ++ t144).size + 1 ≤ 9223372036854775807 then ((spec_l02Dec.f k (Go.bits .and .i64 a0 255)).bind fun t145 => (if (((((t142 ++ (⟨#[46]⟩ : ByteArray)) ++ t143) ++ (⟨#[46]⟩ : ByteArray)) ++ t144) ++ (⟨#[46]⟩ : ByteArray)).size + t145.size ≤ 9223372036854775807 then (some ((((((t142 ++ (⟨#[46]⟩ : ByteArray)) ++ t143) ++ (⟨#[46]⟩ : ByteArray)) ++ t144) ++ (⟨#[46]⟩ : ByteArray)) ++ t145, 0)) else (none))) else (none)) else (none))) else (none)) else (none))) else (none))) else (some ((⟨#[]⟩ : ByteArray), 1))) = some (r1, r2) := H
  have A2 := Aside0.mk A20
  clear A20
  by_cases c3 : t141 = true
  · subst c3
    have H1 : ((spec_l02Dec.f k (a0 / 16777216)).bind fun t142 => (if t142.size + 1 ≤ 9223372036854775807 then ((spec_l02Dec.f k (Go.bits .and .i64 (a0 / 65536) 255)).bind fun t143 => (if (t142 ++ (⟨#[46]⟩ : ByteArray)).size + t143.size ≤ 9223372036854775807 then (if ((t142 ++ (⟨#[46]⟩ : ByteArray)) ++ t143).size + 1 ≤ 9223372036854775807 then ((spec_l02Dec.f k (Go.bits .and .i64 (a0 / 256) 255)).bind fun t144 => (if (((t142 ++ (⟨#[46]⟩ : ByteArray)) ++ t143) ++ (⟨#[46]⟩ : ByteArray)).size + t144.size ≤ 9223372036854775807 then (if ((((t142 ++ (⟨#[46]⟩ : ByteArray)) ++ t143) ++ (⟨#[46]⟩ : ByteArray)) ++ t144).size + 1 ≤ 9223372036854775807 then ((spec_l02Dec.f k (Go.bits .and .i64 a0 255)).bind fun t145 => (if (((((t142 ++ (⟨#[46]⟩ : ByteArray)) ++ t143) ++ (⟨#[46]⟩ : ByteArray)) ++ t144) ++ (⟨#[46]⟩ : ByteArray)).size + t145.size ≤ 9223372036854775807 then (some ((((((t142 ++ (⟨#[46]⟩ : ByteArray)) ++ t143) ++ (⟨#[46]⟩ : ByteArray)) ++ t144) ++ (⟨#[46]⟩ : ByteArray)) ++ t145, 0)) else (none))) else (none)) else (none))) else (none)) else (none))) else (none))) = some (r1, r2) := by rw [if_pos rfl] at H; exact H
    clear H
    have H := H1
    clear H1
    replace H := Option.bind_eq_some_iff.mp H
    obtain ⟨t142, A40, H⟩ := H
    replace H : (if t142.size + 1 ≤ 9223372036854775807 then ((spec_l02Dec.f k (Go.bits .and .i64 (a0 / 65536) 255)).bind fun t143 => (if (t142 ++ (⟨#[46]⟩ : ByteArray)).size + t143.size ≤ 9223372036854775807 then (if ((t142 ++ (⟨#[46]⟩ : ByteArray)) ++ t143).size + 1 ≤ 9223372036854775807 then ((spec_l02Dec.f k (Go.bits .and .i64 (a0 / 256) 255)).bind fun t144 => (if (((t142 ++ (⟨#[46]⟩ : ByteArray)) ++ t143) ++ (⟨#[46]⟩ : ByteArray)).size + t144.size ≤ 9223372036854775807 then (if ((((t142 ++ (⟨#[46]⟩ : ByteArray)) ++ t143) ++ (⟨#[46]⟩ : ByteArray)) ++ t144).size + 1 ≤ 9223372036854775807 then ((spec_l02Dec.f k (Go.bits .and .i64 a0 255)).bind fun t145 => (if (((((t142 ++ (⟨#[46]⟩ : ByteArray)) ++ t143) ++ (⟨#[46]⟩ : ByteArray)) ++ t144) ++ (⟨#[46]⟩ : ByteArray)).size + t145.size ≤ 9223372036854775807 then (some ((((((t142 ++ (⟨#[46]⟩ : ByteArray)) ++ t143) ++ (⟨#[46]⟩ : ByteArray)) ++ t144) ++ (⟨#[46]⟩ : ByteArray)) ++ t145, 0)) else (none))) else (none)) else (none))) else (none)) else (none))) else (none)) = some (r1, r2) := H
    have A4 := Aside0.mk A40
    clear A40
    by_cases c5 : t142.size + 1 ≤ 9223372036854775807
    · rw [if_pos c5] at H
      have c5b0 := eq_true c5
      have c5b1 : decide (t142.size + 1 ≤ 9223372036854775807) = true := decide_eq_true c5
      try have c5b2 : (9223372036854775807 < t142.size + 1) = False := eq_false (Nat.not_lt.2 c5)
      replace H := Option.bind_eq_some_iff.mp H
      obtain ⟨t143, A60, H⟩ := H
      replace H : (if (t142 ++ (⟨#[46]⟩ : ByteArray)).size + t143.size ≤ 9223372036854775807 then (if ((t142 ++ (⟨#[46]⟩ : ByteArray)) ++ t143).size + 1 ≤ 9223372036854775807 then ((spec_l02Dec.f k (Go.bits .and .i64 (a0 / 256) 255)).bind fun t144 => (if (((t142 ++ (⟨#[46]⟩ : ByteArray)) ++ t143) ++ (⟨#[46]⟩ : ByteArray)).size + t144.size ≤ 9223372036854775807 then (if ((((t142 ++ (⟨#[46]⟩ : ByteArray)) ++ t143) ++ (⟨#[46]⟩ : ByteArray)) ++ t144).size + 1 ≤ 9223372036854775807 then ((spec_l02Dec.f k (Go.bits .and .i64 a0 255)).bind fun t145 => (if (((((t142 ++ (⟨#[46]⟩ : ByteArray)) ++ t143) ++ (⟨#[46]⟩ : ByteArray)) ++ t144) ++ (⟨#[46]⟩ : ByteArray)).size + t145.size ≤ 9223372036854775807 then (some ((((((t142 ++ (⟨#[46]⟩ : ByteArray)) ++ t143) ++ (⟨#[46]⟩ : ByteArray)) ++ t144) ++ (⟨#[46]⟩ : ByteArray)) ++ t145, 0)) else (none))) else (none)) else (none))) else (none)) else (none)) = some (r1, r2) := H
      have A6 := Aside0.mk A60
      clear A60
      by_cases c7 : (t142 ++ (⟨#[46]⟩ : ByteArray)).size + t143.size ≤ 9223372036854775807
      · rw [if_pos c7] at H
        have c7b0 := eq_true c7
        have c7b1 : decide ((t142 ++ (⟨#[46]⟩ : ByteArray)).size + t143.size ≤ 9223372036854775807) = true := decide_eq_true c7
        try have c7b2 : (9223372036854775807 < (t142 ++ (⟨#[46]⟩ : ByteArray)).size + t143.size) = False := eq_false (Nat.not_lt.2 c7)
        (try (have c7b5 := c7b2; simp only [ByteArray.size_append, show (⟨#[46]⟩ : ByteArray).size = 1 from rfl] at c7b5))
        by_cases c8 : ((t142 ++ (⟨#[46]⟩ : ByteArray)) ++ t143).size + 1 ≤ 9223372036854775807
        · rw [if_pos c8] at H
          have c8b0 := eq_true c8
          have c8b1 : decide (((t142 ++ (⟨#[46]⟩ : ByteArray)) ++ t143).size + 1 ≤ 9223372036854775807) = true := decide_eq_true c8
          try have c8b2 : (9223372036854775807 < ((t142 ++ (⟨#[46]⟩ : ByteArray)) ++ t143).size + 1) = False := eq_false (Nat.not_lt.2 c8)
          (try (have c8b5 := c8b2; simp only [ByteArray.size_append, show (⟨#[46]⟩ : ByteArray).size = 1 from rfl] at c8b5))
          replace H := Option.bind_eq_some_iff.mp H
          obtain ⟨t144, A90, H⟩ := H
          replace H : (if (((t142 ++ (⟨#[46]⟩ : ByteArray)) ++ t143) ++ (⟨#[46]⟩ : ByteArray)).size + t144.size ≤ 9223372036854775807 then (if ((((t142 ++ (⟨#[46]⟩ : ByteArray)) ++ t143) ++ (⟨#[46]⟩ : ByteArray)) ++ t144).size + 1 ≤ 9223372036854775807 then ((spec_l02Dec.f k (Go.bits .and .i64 a0 255)).bind fun t145 => (if (((((t142 ++ (⟨#[46]⟩ : ByteArray)) ++ t143) ++ (⟨#[46]⟩ : ByteArray)) ++ t144) ++ (⟨#[46]⟩ : ByteArray)).size + t145.size ≤ 9223372036854775807 then (some ((((((t142 ++ (⟨#[46]⟩ : ByteArray)) ++ t143) ++ (⟨#[46]⟩ : ByteArray)) ++ t144) ++ (⟨#[46]⟩ : ByteArray)) ++ t145, 0)) else (none))) else (none)) else (none)) = some (r1, r2) := H
          have A9 := Aside0.mk A90
          clear A90
          by_cases c10 : (((t142 ++ (⟨#[46]⟩ : ByteArray)) ++ t143) ++ (⟨#[46]⟩ : ByteArray)).size + t144.size ≤ 9223372036854775807
          · rw [if_pos c10] at H
            have c10b0 := eq_true c10
            have c10b1 : decide ((((t142 ++ (⟨#[46]⟩ : ByteArray)) ++ t143) ++ (⟨#[46]⟩ : ByteArray)).size + t144.size ≤ 9223372036854775807) = true := decide_eq_true c10
            try have c10b2 : (9223372036854775807 < (((t142 ++ (⟨#[46]⟩ : ByteArray)) ++ t143) ++ (⟨#[46]⟩ : ByteArray)).size + t144.size) = False := eq_false (Nat.not_lt.2 c10)
            (try (have c10b5 := c10b2; simp only [ByteArray.size_append, show (⟨#[46]⟩ : ByteArray).size = 1 from rfl] at c10b5))
            by_cases c11 : ((((t142 ++ (⟨#[46]⟩ : ByteArray)) ++ t143) ++ (⟨#[46]⟩ : ByteArray)) ++ t144).size + 1 ≤ 9223372036854775807
            · rw [if_pos c11] at H
              have c11b0 := eq_true c11
              have c11b1 : decide (((((t142 ++ (⟨#[46]⟩ : ByteArray)) ++ t143) ++ (⟨#[46]⟩ : ByteArray)) ++ t144).size + 1 ≤ 9223372036854775807) = true := decide_eq_true c11
              try have c11b2 : (9223372036854775807 < ((((t142 ++ (⟨#[46]⟩ : ByteArray)) ++ t143) ++ (⟨#[46]⟩ : ByteArray)) ++ t144).size + 1) = False := eq_false (Nat.not_lt.2 c11)
              (try (have c11b5 := c11b2; simp only [ByteArray.size_append, show (⟨#[46]⟩ : ByteArray).size = 1 from rfl] at c11b5))
              replace H := Option.bind_eq_some_iff.mp H
              obtain ⟨t145, A120, H⟩ := H
              replace H : (if (((((t142 ++ (⟨#[46]⟩ : ByteArray)) ++ t143) ++ (⟨#[46]⟩ : ByteArray)) ++ t144) ++ (⟨#[46]⟩ : ByteArray)).size + t145.size ≤ 9223372036854775807 then (some ((((((t142 ++ (⟨#[46]⟩ : ByteArray)) ++ t143) ++ (⟨#[46]⟩ : ByteArray)) ++ t144) ++ (⟨#[46]⟩ : ByteArray)) ++ t145, 0)) else (none)) = some (r1, r2) := H
              have A12 := Aside0.mk A120
              clear A120
              by_cases c13 : (((((t142 ++ (⟨#[46]⟩ : ByteArray)) ++ t143) ++ (⟨#[46]⟩ : ByteArray)) ++ t144) ++ (⟨#[46]⟩ : ByteArray)).size + t145.size ≤ 9223372036854775807
              · rw [if_pos c13] at H
                have c13b0 := eq_true c13
                have c13b1 : decide ((((((t142 ++ (⟨#[46]⟩ : ByteArray)) ++ t143) ++ (⟨#[46]⟩ : ByteArray)) ++ t144) ++ (⟨#[46]⟩ : ByteArray)).size + t145.size ≤ 9223372036854775807) = true := decide_eq_true c13
                try have c13b2 : (9223372036854775807 < (((((t142 ++ (⟨#[46]⟩ : ByteArray)) ++ t143) ++ (⟨#[46]⟩ : ByteArray)) ++ t144) ++ (⟨#[46]⟩ : ByteArray)).size + t145.size) = False := eq_false (Nat.not_lt.2 c13)
                (try (have c13b5 := c13b2; simp only [ByteArray.size_append, show (⟨#[46]⟩ : ByteArray).size = 1 from rfl] at c13b5))
                simp only [Option.some.injEq, Prod.mk.injEq] at H
                obtain ⟨rfl, rfl⟩ := H
                go_enter Tryd.func32, Tryd.ntmps32
                go_wp2_with (first | ((with_reducible refine gate_callee (f := 29) rfl ?_); refine goesL_ (some 5) rfl rfl Tryd.func29 (by kernel_rfl) rfl #[.int .i64 a0] rfl wT ?_; (with_reducible refine (spec_l02AddrOK.calls a0 true _ A2.out).mono ?_); rintro e w' ⟨rfl, ⟨nd, rfl⟩⟩; refine ⟨_, rfl, ?_⟩) | ((with_reducible refine gate_callee (f := 23) rfl ?_); refine goesL_ (some 9) rfl rfl Tryd.func23 (by kernel_rfl) rfl #[.int .i64 (a0 / 16777216)] rfl wT ?_; (with_reducible refine (spec_l02Dec.calls k (a0 / 16777216) t142 _ A4.out).mono ?_); rintro e w1001 ⟨rfl, hb⟩; refine ⟨_, rfl, ?_⟩; have n0_ := Aside0.mk (below_step wB hb); clear HB; have HB := n0_; clear n0_; (try clear hb); (try clear hb2); (try clear hk); (try clear hi)) | ((with_reducible refine gate_callee (f := 23) rfl ?_); refine goesL_ (some 14) rfl rfl Tryd.func23 (by kernel_rfl) rfl #[.int .i64 (Go.bits .and .i64 (a0 / 65536) 255)] rfl wT ?_; (with_reducible refine (spec_l02Dec.calls k (Go.bits .and .i64 (a0 / 65536) 255) t143 _ A6.out).mono ?_); rintro e w1002 ⟨rfl, hb⟩; refine ⟨_, rfl, ?_⟩; have n0_ := Aside0.mk (below_step wB hb); clear HB; have HB := n0_; clear n0_; (try clear hb); (try clear hb2); (try clear hk); (try clear hi)) | ((with_reducible refine gate_callee (f := 23) rfl ?_); refine goesL_ (some 20) rfl rfl Tryd.func23 (by kernel_rfl) rfl #[.int .i64 (Go.bits .and .i64 (a0 / 256) 255)] rfl wT ?_; (with_reducible refine (spec_l02Dec.calls k (Go.bits .and .i64 (a0 / 256) 255) t144 _ A9.out).mono ?_); rintro e w1003 ⟨rfl, hb⟩; refine ⟨_, rfl, ?_⟩; have n0_ := Aside0.mk (below_step wB hb); clear HB; have HB := n0_; clear n0_; (try clear hb); (try clear hb2); (try clear hk); (try clear hi)) | ((with_reducible refine gate_callee (f := 23) rfl ?_); refine goesL_ (some 25) rfl rfl Tryd.func23 (by kernel_rfl) rfl #[.int .i64 (Go.bits .and .i64 a0 255)] rfl wT ?_; (with_reducible refine (spec_l02Dec.calls k (Go.bits .and .i64 a0 255) t145 _ A12.out).mono ?_); rintro e w1004 ⟨rfl, hb⟩; refine ⟨_, rfl, ?_⟩; have n0_ := Aside0.mk (below_step wB hb); clear HB; have HB := n0_; clear n0_; (try clear hb); (try clear hb2); (try clear hk); (try clear hi)))
                go_ret2
                exact ⟨by first | rfl | (simp [errW_none, errW_some] <;> rfl) | (simp [*, errW_none, errW_some] <;> rfl), wB⟩
              · rw [if_neg c13] at H
                exact absurd H (by simp)
            · rw [if_neg c11] at H
              exact absurd H (by simp)
          · rw [if_neg c10] at H
            exact absurd H (by simp)
        · rw [if_neg c8] at H
          exact absurd H (by simp)
      · rw [if_neg c7] at H
        exact absurd H (by simp)
    · rw [if_neg c5] at H
      exact absurd H (by simp)
  · replace c3 := Bool.eq_false_iff.mpr c3
    subst c3
    have H1 : (some ((⟨#[]⟩ : ByteArray), 1)) = some (r1, r2) := by rw [if_neg (show ¬ (false = true) by decide)] at H; exact H
    clear H
    have H := H1
    clear H1
    simp only [Option.some.injEq, Prod.mk.injEq] at H
    obtain ⟨rfl, rfl⟩ := H
    go_enter Tryd.func32, Tryd.ntmps32
    go_wp2_with (first | ((with_reducible refine gate_callee (f := 29) rfl ?_); refine goesL_ (some 5) rfl rfl Tryd.func29 (by kernel_rfl) rfl #[.int .i64 a0] rfl wT ?_; (with_reducible refine (spec_l02AddrOK.calls a0 false _ A2.out).mono ?_); rintro e w' ⟨rfl, ⟨nd, rfl⟩⟩; refine ⟨_, rfl, ?_⟩))
    go_ret2
    exact ⟨by first | rfl | (simp [errW_none, errW_some] <;> rfl) | (simp [*, errW_none, errW_some] <;> rfl), wB⟩

/-! ### spec_ShowPrefix: function 22 -/
def spec_ShowPrefix.f (k : Nat) (a0_0 : Int) (a0_1 : Int) : Option (ByteArray × Int) := (spec_l02PrefixOK.f k a0_0 a0_1).bind fun t147 => (if t147 = true then ((spec_ShowAddr.f k a0_0).bind fun bt148 => (if bt148.1.size + 1 ≤ 9223372036854775807 then ((spec_l02Dec.f k a0_1).bind fun t150 => (if (bt148.1 ++ (⟨#[47]⟩ : ByteArray)).size + t150.size ≤ 9223372036854775807 then (some ((bt148.1 ++ (⟨#[47]⟩ : ByteArray)) ++ t150, 0)) else (none))) else (none))) else (some ((⟨#[]⟩ : ByteArray), 1)))
theorem spec_ShowPrefix.mono : ∀ a0 a1 k, LeO (spec_ShowPrefix.f k a0 a1) (spec_ShowPrefix.f (k + 1) a0 a1) := by
  intro a0 a1 k
  unfold spec_ShowPrefix.f
  repeat' first
      | (with_reducible exact spec_ShowAddr.mono _ _)
      | (with_reducible exact spec_l02Dec.mono _ _)
      | (with_reducible exact spec_l02PrefixOK.mono _ _ _)
      | (with_reducible exact LeO.refl _)
      | (with_reducible exact LeO.none _)
      | (with_reducible refine LeO.ite ?_ ?_)
      | (with_reducible refine LeO.bind ?_ (fun _ => ?_))
      | exact spec_ShowAddr.mono _ _
      | exact spec_l02Dec.mono _ _
      | exact spec_l02PrefixOK.mono _ _ _
      | exact LeO.none _
      | refine LeO.ite ?_ ?_
      | refine LeO.bind ?_ (fun _ => ?_)
set_option maxHeartbeats 60000000 in
set_option maxRecDepth 100000 in
theorem spec_ShowPrefix.calls (k : Nat) (a0_0 : Int) (a0_1 : Int) (r1 : ByteArray) (r2 : Int) (w : World) (h : spec_ShowPrefix.f k a0_0 a0_1 = some (r1, r2)) :
    Calls Tryd.prog 22 #[.agg #[.int .i64 a0_0, .int .i64 a0_1]] w fun e w' => e = .returned (.tuple #[.string r1, .int .i64 r2]) ∧ Below w.heap.size w w' := by
  have hu31 := Tryd.underlying31
  have HB := Aside0.mk (Below.refl w.heap.size w)
  have H : ((spec_l02PrefixOK.f k a0_0 a0_1).bind fun t147 => (if t147 = true then ((spec_ShowAddr.f k a0_0).bind fun bt148 => (if bt148.1.size + 1 ≤ 9223372036854775807 then ((spec_l02Dec.f k a0_1).bind fun t150 => (if (bt148.1 ++ (⟨#[47]⟩ : ByteArray)).size + t150.size ≤ 9223372036854775807 then (some ((bt148.1 ++ (⟨#[47]⟩ : ByteArray)) ++ t150, 0)) else (none))) else (none))) else (some ((⟨#[]⟩ : ByteArray), 1)))) = some (r1, r2) := h
  clear h
  replace H := Option.bind_eq_some_iff.mp H
  obtain ⟨t147, A20, H⟩ := H
  replace H : (if t147 = true then ((spec_ShowAddr.f k a0_0).bind fun bt148 => (if bt148.1.size + 1 ≤ 9223372036854775807 then ((spec_l02Dec.f k a0_1).bind fun t150 => (if (bt148.1 ++ (⟨#[47]⟩ : ByteArray)).size + t150.size ≤ 9223372036854775807 then (some ((bt148.1 ++ (⟨#[47]⟩ : ByteArray)) ++ t150, 0)) else (none))) else (none))) else (some ((⟨#[]⟩ : ByteArray), 1))) = some (r1, r2) := H
  have A2 := Aside0.mk A20
  clear A20
  by_cases c3 : t147 = true
  · subst c3
    have H1 : ((spec_ShowAddr.f k a0_0).bind fun bt148 => (if bt148.1.size + 1 ≤ 9223372036854775807 then ((spec_l02Dec.f k a0_1).bind fun t150 => (if (bt148.1 ++ (⟨#[47]⟩ : ByteArray)).size + t150.size ≤ 9223372036854775807 then (some ((bt148.1 ++ (⟨#[47]⟩ : ByteArray)) ++ t150, 0)) else (none))) else (none))) = some (r1, r2) := by rw [if_pos rfl] at H; exact H
    clear H
    have H := H1
    clear H1
    replace H := Option.bind_eq_some_iff.mp H
    obtain ⟨⟨t148, t149⟩, A40, H⟩ := H
    replace H : (if t148.size + 1 ≤ 9223372036854775807 then ((spec_l02Dec.f k a0_1).bind fun t150 => (if (t148 ++ (⟨#[47]⟩ : ByteArray)).size + t150.size ≤ 9223372036854775807 then (some ((t148 ++ (⟨#[47]⟩ : ByteArray)) ++ t150, 0)) else (none))) else (none)) = some (r1, r2) := H
    have A4 := Aside0.mk A40
    clear A40
    by_cases c5 : t148.size + 1 ≤ 9223372036854775807
    · rw [if_pos c5] at H
      have c5b0 := eq_true c5
      have c5b1 : decide (t148.size + 1 ≤ 9223372036854775807) = true := decide_eq_true c5
      try have c5b2 : (9223372036854775807 < t148.size + 1) = False := eq_false (Nat.not_lt.2 c5)
      replace H := Option.bind_eq_some_iff.mp H
      obtain ⟨t150, A60, H⟩ := H
      replace H : (if (t148 ++ (⟨#[47]⟩ : ByteArray)).size + t150.size ≤ 9223372036854775807 then (some ((t148 ++ (⟨#[47]⟩ : ByteArray)) ++ t150, 0)) else (none)) = some (r1, r2) := H
      have A6 := Aside0.mk A60
      clear A60
      by_cases c7 : (t148 ++ (⟨#[47]⟩ : ByteArray)).size + t150.size ≤ 9223372036854775807
      · rw [if_pos c7] at H
        have c7b0 := eq_true c7
        have c7b1 : decide ((t148 ++ (⟨#[47]⟩ : ByteArray)).size + t150.size ≤ 9223372036854775807) = true := decide_eq_true c7
        try have c7b2 : (9223372036854775807 < (t148 ++ (⟨#[47]⟩ : ByteArray)).size + t150.size) = False := eq_false (Nat.not_lt.2 c7)
        (try (have c7b5 := c7b2; simp only [ByteArray.size_append, show (⟨#[47]⟩ : ByteArray).size = 1 from rfl] at c7b5))
        simp only [Option.some.injEq, Prod.mk.injEq] at H
        obtain ⟨rfl, rfl⟩ := H
        go_enter Tryd.func22, Tryd.ntmps22
        go_wp2_with (first | ((with_reducible refine gate_dst (N := 1) rfl ?_); refine box_event ?hg (N := 1) ?hd (cs := #[.int .i64 a0_0, .int .i64 a0_1]) (t := 31) ?hr ?_; (case hd => rfl); (case hg => rfl); (case hr => first | (go_simp; done) | (go_simp; rfl)); intro gb146 hg w1001 hbox hb; have n0_ := Aside0.mk (below_step wB hb); have n1_ := Aside0.mk (hbox); have n2_ := Aside0.mk ((by rw [hg]; exact (below_size wB) : w.heap.size ≤ gb146)); have n3_ := Aside0.mk ((by rw [hg]; exact (below_size wB) : w.heap.size ≤ gb146)); clear HB; have HB := n0_; have BK146 := n1_; have GW146 := n2_; have GE146 := n3_; clear n0_ n1_ n2_ n3_; clear hb hbox hg; obtain ⟨⟨hcz1002_0, hcz1002_1⟩, hfz1002_0, hfz1002_1⟩ := cells2 BK146.out) | ((with_reducible refine gate_callee (f := 18) rfl ?_); refine goesL_ (some 7) rfl rfl Tryd.func18 (by kernel_rfl) rfl #[.agg #[.int .i64 a0_0, .int .i64 a0_1]] rfl wT ?_; (with_reducible refine (spec_l02PrefixOK.calls k a0_0 a0_1 true _ A2.out).mono ?_); rintro e w1003 ⟨rfl, hb⟩; refine ⟨_, rfl, ?_⟩; have n0_ := Aside0.mk (blk_below (Bh BK146) hb); have n1_ := Aside0.mk (below_step wB hb); clear BK146; clear HB; have BK146 := n0_; have HB := n1_; clear n0_ n1_; (try clear hb); (try clear hb2); (try clear hk); (try clear hi); obtain ⟨⟨hcz1004_0, hcz1004_1⟩, hfz1004_0, hfz1004_1⟩ := cells2 BK146.out) | ((with_reducible refine gate_callee (f := 32) rfl ?_); refine goesL_ (some 12) rfl rfl Tryd.func32 (by kernel_rfl) rfl #[.int .i64 a0_0] rfl wT ?_; (with_reducible refine (spec_ShowAddr.calls k a0_0 t148 t149 _ A4.out).mono ?_); rintro e w1005 ⟨rfl, hb⟩; refine ⟨_, rfl, ?_⟩; have n0_ := Aside0.mk (blk_below (Bh BK146) hb); have n1_ := Aside0.mk (below_step wB hb); clear BK146; clear HB; have BK146 := n0_; have HB := n1_; clear n0_ n1_; (try clear hb); (try clear hb2); (try clear hk); (try clear hi); obtain ⟨⟨hcz1006_0, hcz1006_1⟩, hfz1006_0, hfz1006_1⟩ := cells2 BK146.out) | ((with_reducible refine gate_callee (f := 23) rfl ?_); refine goesL_ (some 19) rfl rfl Tryd.func23 (by kernel_rfl) rfl #[.int .i64 a0_1] rfl wT ?_; (with_reducible refine (spec_l02Dec.calls k a0_1 t150 _ A6.out).mono ?_); rintro e w1007 ⟨rfl, hb⟩; refine ⟨_, rfl, ?_⟩; have n0_ := Aside0.mk (blk_below (Bh BK146) hb); have n1_ := Aside0.mk (below_step wB hb); clear BK146; clear HB; have BK146 := n0_; have HB := n1_; clear n0_ n1_; (try clear hb); (try clear hb2); (try clear hk); (try clear hi)))
        go_ret2
        exact ⟨by first | rfl | (simp [errW_none, errW_some] <;> rfl) | (simp [*, errW_none, errW_some] <;> rfl), wB⟩
      · rw [if_neg c7] at H
        exact absurd H (by simp)
    · rw [if_neg c5] at H
      exact absurd H (by simp)
  · replace c3 := Bool.eq_false_iff.mpr c3
    subst c3
    have H1 : (some ((⟨#[]⟩ : ByteArray), 1)) = some (r1, r2) := by rw [if_neg (show ¬ (false = true) by decide)] at H; exact H
    clear H
    have H := H1
    clear H1
    simp only [Option.some.injEq, Prod.mk.injEq] at H
    obtain ⟨rfl, rfl⟩ := H
    go_enter Tryd.func22, Tryd.ntmps22
    go_wp2_with (first | ((with_reducible refine gate_dst (N := 1) rfl ?_); refine box_event ?hg (N := 1) ?hd (cs := #[.int .i64 a0_0, .int .i64 a0_1]) (t := 31) ?hr ?_; (case hd => rfl); (case hg => rfl); (case hr => first | (go_simp; done) | (go_simp; rfl)); intro gb146 hg w1001 hbox hb; have n0_ := Aside0.mk (below_step wB hb); have n1_ := Aside0.mk (hbox); have n2_ := Aside0.mk ((by rw [hg]; exact (below_size wB) : w.heap.size ≤ gb146)); have n3_ := Aside0.mk ((by rw [hg]; exact (below_size wB) : w.heap.size ≤ gb146)); clear HB; have HB := n0_; have BK146 := n1_; have GW146 := n2_; have GE146 := n3_; clear n0_ n1_ n2_ n3_; clear hb hbox hg; obtain ⟨⟨hcz1002_0, hcz1002_1⟩, hfz1002_0, hfz1002_1⟩ := cells2 BK146.out) | ((with_reducible refine gate_callee (f := 18) rfl ?_); refine goesL_ (some 7) rfl rfl Tryd.func18 (by kernel_rfl) rfl #[.agg #[.int .i64 a0_0, .int .i64 a0_1]] rfl wT ?_; (with_reducible refine (spec_l02PrefixOK.calls k a0_0 a0_1 false _ A2.out).mono ?_); rintro e w1003 ⟨rfl, hb⟩; refine ⟨_, rfl, ?_⟩; have n0_ := Aside0.mk (blk_below (Bh BK146) hb); have n1_ := Aside0.mk (below_step wB hb); clear BK146; clear HB; have BK146 := n0_; have HB := n1_; clear n0_ n1_; (try clear hb); (try clear hb2); (try clear hk); (try clear hi)))
    go_ret2
    exact ⟨by first | rfl | (simp [errW_none, errW_some] <;> rfl) | (simp [*, errW_none, errW_some] <;> rfl), wB⟩

end Go.Proofs.YtmgapmpmmkmdhaaDoor.PFnExactShowRules
