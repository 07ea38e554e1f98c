-- Written for this claim by a program of this session (wip/mkprint.py: the print, turned at a few places). Not trusted: Lean checks it.
import Derived.Test.YtkfbcmbemihbnaaPFnLongestx0
import Derived.Test.YtkfbcmbemihbnaaPFnLongestx4
namespace Go.Proofs.Ytkfbcmbemihbnaa.PFnLongest
open Go.RowKit Go.Proofs.YtkfbcmbemihbnaaW.PrintWords Go.Proofs.YtkfbcmbemihbnaaW.PrintLast Go.Proofs.YtkfbcmbemihbnaaW.PrintMore
attribute [local go_sem] max2_int min2_int max_two min_two max_three min_three max_four min_four   -- for this text's walks alone
set_option linter.unusedVariables false
set_option linter.unusedSimpArgs false

/-! ### impl_okRoute: function 99 -/
def impl_okRoute.f (a0_0 : Int) (a0_1 : Int) (a0_2 : Int) (a0_3 : Int) (a0_4 : Int) : Option (Bool) := (impl_okPrefix.f a0_0 a0_1).bind fun t250 => (if t250 = true then (if a0_2 = 0 then (if a0_3 ≥ 0 then (if a0_3 ≤ 7 then (if a0_4 ≥ 0 then (some (decide (a0_4 ≤ 1000000))) else (some false)) else (some false)) else (some false)) else ((impl_AddrKind.f a0_2).bind fun t251 => (if t251 = 6 then (if a0_3 ≥ 0 then (if a0_3 ≤ 7 then (if a0_4 ≥ 0 then (some (decide (a0_4 ≤ 1000000))) else (some false)) else (some false)) else (some false)) else (some false)))) else (some false))
set_option maxHeartbeats 60000000 in
set_option maxRecDepth 100000 in
theorem impl_okRoute.calls (a0_0 : Int) (a0_1 : Int) (a0_2 : Int) (a0_3 : Int) (a0_4 : Int) (r : Bool) (w : World) (h : impl_okRoute.f a0_0 a0_1 a0_2 a0_3 a0_4 = some r) :
 Calls Try.prog 99 #[.agg #[.int .i64 a0_0, .int .i64 a0_1, .int .i64 a0_2, .int .i64 a0_3, .int .i64 a0_4]] w fun e w' => e = .returned (.bool r) ∧ Below w.heap.size w w' := by
 have hu76 := Try.underlying76
 have hu74 := Try.underlying74
 have HB := Aside0.mk (Below.refl w.heap.size w)
 have H : ((impl_okPrefix.f a0_0 a0_1).bind fun t250 => (if t250 = true then (if a0_2 = 0 then (if a0_3 ≥ 0 then (if a0_3 ≤ 7 then (if a0_4 ≥ 0 then (some (decide (a0_4 ≤ 1000000))) else (some false)) else (some false)) else (some false)) else ((impl_AddrKind.f a0_2).bind fun t251 => (if t251 = 6 then (if a0_3 ≥ 0 then (if a0_3 ≤ 7 then (if a0_4 ≥ 0 then (some (decide (a0_4 ≤ 1000000))) else (some false)) else (some false)) else (some false)) else (some false)))) else (some false))) = some r := h
 clear h
 replace H := Option.bind_eq_some_iff.mp H
 obtain ⟨t250, A20, H⟩ := H
 replace H : (if t250 = true then (if a0_2 = 0 then (if a0_3 ≥ 0 then (if a0_3 ≤ 7 then (if a0_4 ≥ 0 then (some (decide (a0_4 ≤ 1000000))) else (some false)) else (some false)) else (some false)) else ((impl_AddrKind.f a0_2).bind fun t251 => (if t251 = 6 then (if a0_3 ≥ 0 then (if a0_3 ≤ 7 then (if a0_4 ≥ 0 then (some (decide (a0_4 ≤ 1000000))) else (some false)) else (some false)) else (some false)) else (some false)))) else (some false)) = some r := H
 have A2 := Aside0.mk A20
 clear A20
 by_cases c3 : t250 = true
 subst c3
 have H1 : (if a0_2 = 0 then (if a0_3 ≥ 0 then (if a0_3 ≤ 7 then (if a0_4 ≥ 0 then (some (decide (a0_4 ≤ 1000000))) else (some false)) else (some false)) else (some false)) else ((impl_AddrKind.f a0_2).bind fun t251 => (if t251 = 6 then (if a0_3 ≥ 0 then (if a0_3 ≤ 7 then (if a0_4 ≥ 0 then (some (decide (a0_4 ≤ 1000000))) else (some false)) else (some false)) else (some false)) else (some false)))) = some r := by rw [if_pos rfl] at H; exact H
 clear H
 have H := H1
 clear H1
 by_cases c4 : a0_2 = 0
 rw [if_pos c4] at H
 have c4b0 : (a0_2 == 0) = true := beq_iff_eq.mpr c4
 have c4b1 : (a0_2 != 0) = false := bne_eq_false_iff_eq.mpr c4
 clear c4
 by_cases c5 : a0_3 ≥ 0
 rw [if_pos c5] at H
 have c5b0 : decide (0 ≤ a0_3) = true := decide_eq_true c5
 clear c5
 by_cases c6 : a0_3 ≤ 7
 rw [if_pos c6] at H
 have c6b0 : decide (a0_3 ≤ 7) = true := decide_eq_true c6
 clear c6
 by_cases c7 : a0_4 ≥ 0
 rw [if_pos c7] at H
 have c7b0 : decide (0 ≤ a0_4) = true := decide_eq_true c7
 clear c7
 obtain rfl := Option.some.inj H
 rotate_left
 rw [if_neg c7] at H
 have c7b0 : decide (0 ≤ a0_4) = false := decide_eq_false c7
 clear c7
 obtain rfl := Option.some.inj H
 rotate_left
 rw [if_neg c6] at H
 have c6b0 : decide (a0_3 ≤ 7) = false := decide_eq_false c6
 clear c6
 obtain rfl := Option.some.inj H
 rotate_left
 rw [if_neg c5] at H
 have c5b0 : decide (0 ≤ a0_3) = false := decide_eq_false c5
 clear c5
 obtain rfl := Option.some.inj H
 rotate_left
 rw [if_neg c4] at H
 have c4b0 : (a0_2 == 0) = false := beq_eq_false_iff_ne.mpr c4
 have c4b1 : (a0_2 != 0) = true := bne_iff_ne.mpr c4
 replace H := Option.bind_eq_some_iff.mp H
 obtain ⟨t251, A80, H⟩ := H
 replace H : (if t251 = 6 then (if a0_3 ≥ 0 then (if a0_3 ≤ 7 then (if a0_4 ≥ 0 then (some (decide (a0_4 ≤ 1000000))) else (some false)) else (some false)) else (some false)) else (some false)) = some r := H
 have A8 := Aside0.mk A80
 clear A80
 by_cases c9 : t251 = 6
 rw [if_pos c9] at H
 have c9b0 : (t251 == 6) = true := beq_iff_eq.mpr c9
 have c9b1 : (t251 != 6) = false := bne_eq_false_iff_eq.mpr c9
 clear c9
 by_cases c10 : a0_3 ≥ 0
 rw [if_pos c10] at H
 have c10b0 : decide (0 ≤ a0_3) = true := decide_eq_true c10
 clear c10
 by_cases c11 : a0_3 ≤ 7
 rw [if_pos c11] at H
 have c11b0 : decide (a0_3 ≤ 7) = true := decide_eq_true c11
 clear c11
 by_cases c12 : a0_4 ≥ 0
 rw [if_pos c12] at H
 have c12b0 : decide (0 ≤ a0_4) = true := decide_eq_true c12
 clear c12
 obtain rfl := Option.some.inj H
 rotate_left
 rw [if_neg c12] at H
 have c12b0 : decide (0 ≤ a0_4) = false := decide_eq_false c12
 clear c12
 obtain rfl := Option.some.inj H
 rotate_left
 rw [if_neg c11] at H
 have c11b0 : decide (a0_3 ≤ 7) = false := decide_eq_false c11
 clear c11
 obtain rfl := Option.some.inj H
 rotate_left
 rw [if_neg c10] at H
 have c10b0 : decide (0 ≤ a0_3) = false := decide_eq_false c10
 clear c10
 obtain rfl := Option.some.inj H
 rotate_left
 rw [if_neg c9] at H
 have c9b0 : (t251 == 6) = false := beq_eq_false_iff_ne.mpr c9
 have c9b1 : (t251 != 6) = true := bne_iff_ne.mpr c9
 obtain rfl := Option.some.inj H
 rotate_left
 replace c3 := Bool.eq_false_iff.mpr c3
 subst c3
 have H1 : (some false) = some r := by rw [if_neg (show ¬ (false = true) by decide)] at H; exact H
 clear H
 have H := H1
 clear H1
 obtain rfl := Option.some.inj H
 rotate_left
 all_goals (
 go_enter Try.func99, Try.ntmps99
 )
 iterate 9 (
 focus (
 go_wp2_with (first | ((with_reducible refine gate_dst (N := 1) rfl ?_); refine box_event ?hg (N := 1) ?hd (cs := #[.int .i64 a0_0, .int .i64 a0_1, .int .i64 a0_2, .int .i64 a0_3, .int .i64 a0_4]) (t := 76) ?hr ?_; (case hd => rfl); (case hg => rfl); (case hr => first | (go_simp; done) | (go_simp; rfl)); intro gb249 hg w1001 hbox hb; have n0_ := Aside0.mk (below_step wB hb); have n1_ := Aside0.mk (hbox); have n2_ := Aside0.mk ((by rw [hg]; exact (below_size wB) : w.heap.size ≤ gb249)); have n3_ := Aside0.mk ((by rw [hg]; exact (below_size wB) : w.heap.size ≤ gb249)); clear HB; have HB := n0_; have BK249 := n1_; have GW249 := n2_; have GE249 := n3_; clear n0_ n1_ n2_ n3_; clear hb hbox hg; obtain ⟨⟨hcz1002_0, hcz1002_1, hcz1002_2, hcz1002_3, hcz1002_4⟩, hfz1002_0, hfz1002_1, hfz1002_2, hfz1002_3, hfz1002_4⟩ := cells5 BK249.out) | ((with_reducible refine gate_callee (f := 138) rfl ?_); refine goesL_ (some 5) rfl rfl Try.func138 (by kernel_rfl) rfl #[.agg #[.int .i64 a0_0, .int .i64 a0_1]] rfl wT ?_; (with_reducible refine (impl_okPrefix.calls a0_0 a0_1 true _ A2.out).mono ?_); rintro e w1003 ⟨rfl, hb⟩; refine ⟨_, rfl, ?_⟩; have n0_ := Aside0.mk (blk_below (Bh BK249) hb); have n1_ := Aside0.mk (below_step wB hb); clear BK249; clear HB; have BK249 := n0_; have HB := n1_; clear n0_ n1_; (try clear hb); (try clear hb2); (try clear hk); (try clear hi); obtain ⟨⟨hcz1004_0, hcz1004_1, hcz1004_2, hcz1004_3, hcz1004_4⟩, hfz1004_0, hfz1004_1, hfz1004_2, hfz1004_3, hfz1004_4⟩ := cells5 BK249.out) | (go_at_call 139; (with_reducible refine (impl_AddrKind.calls a0_2 t251 _ A8.out).mono ?_); rintro e w' ⟨rfl, ⟨nd, rfl⟩⟩))
 all_goals (try (rename_i h_; exfalso; cases h_; done))
 all_goals (try (rename_i h_ h2_; exfalso; cases h_; done))
 go_ret
 exact ⟨by first | rfl | (simp [errW_none, errW_some] <;> rfl) | (simp [*, errW_none, errW_some] <;> rfl), wB⟩
 )
 )
 {
 go_wp2_with (first | ((with_reducible refine gate_dst (N := 1) rfl ?_); refine box_event ?hg (N := 1) ?hd (cs := #[.int .i64 a0_0, .int .i64 a0_1, .int .i64 a0_2, .int .i64 a0_3, .int .i64 a0_4]) (t := 76) ?hr ?_; (case hd => rfl); (case hg => rfl); (case hr => first | (go_simp; done) | (go_simp; rfl)); intro gb249 hg w1001 hbox hb; have n0_ := Aside0.mk (below_step wB hb); have n1_ := Aside0.mk (hbox); have n2_ := Aside0.mk ((by rw [hg]; exact (below_size wB) : w.heap.size ≤ gb249)); have n3_ := Aside0.mk ((by rw [hg]; exact (below_size wB) : w.heap.size ≤ gb249)); clear HB; have HB := n0_; have BK249 := n1_; have GW249 := n2_; have GE249 := n3_; clear n0_ n1_ n2_ n3_; clear hb hbox hg; obtain ⟨⟨hcz1002_0, hcz1002_1, hcz1002_2, hcz1002_3, hcz1002_4⟩, hfz1002_0, hfz1002_1, hfz1002_2, hfz1002_3, hfz1002_4⟩ := cells5 BK249.out) | ((with_reducible refine gate_callee (f := 138) rfl ?_); refine goesL_ (some 5) rfl rfl Try.func138 (by kernel_rfl) rfl #[.agg #[.int .i64 a0_0, .int .i64 a0_1]] rfl wT ?_; (with_reducible refine (impl_okPrefix.calls a0_0 a0_1 false _ A2.out).mono ?_); rintro e w1003 ⟨rfl, hb⟩; refine ⟨_, rfl, ?_⟩; have n0_ := Aside0.mk (blk_below (Bh BK249) hb); have n1_ := Aside0.mk (below_step wB hb); clear BK249; clear HB; have BK249 := n0_; have HB := n1_; clear n0_ n1_; (try clear hb); (try clear hb2); (try clear hk); (try clear hi)))
 all_goals (try (rename_i h_; exfalso; cases h_; done))
 all_goals (try (rename_i h_ h2_; exfalso; cases h_; done))
 go_ret
 exact ⟨by first | rfl | (simp [errW_none, errW_some] <;> rfl) | (simp [*, errW_none, errW_some] <;> rfl), wB⟩
 }

/-! ### impl_PrefixHas: function 100 -/
def impl_PrefixHas.f (a0_0 : Int) (a0_1 : Int) (a1 : Int) : Option (Bool) := (impl_okPrefix.f a0_0 a0_1).bind fun t253 => (if t253 = true then ((impl_isAddr.f a1).bind fun t254 => (if t254 = true then ((impl_mask.f a0_1).bind fun t255 => (some ((Go.bits .and .i64 a1 t255) == a0_0))) else (some false))) else (some false))
def impl_PrefixHas.T1 : Bool × List (List Nat × List Nat) := (true, [([], []), ([0], [0]), ([1, 1], [1]), ([2], [2]), ([3, 2, 2], [2, 3]), ([2, 4], [2, 4]), ([5, 4], [5]), ([6], [6]), ([6], [6]), ([8, 6], [6, 8]), ([9, 6, 6], [6, 9]), ([7, 10, 6], [6, 7, 10]), ([6], [6]), ([12, 6], [6, 12]), ([11, 13, 6], [6, 11, 13]), ([6, 14], [6, 14]), ([15, 10, 0, 1, 2, 3, 4, 5, 6, 7, 8, 9, 10, 11, 12, 13, 14, 15], [15])])
def impl_PrefixHas.B1 : List Nat := [0, 1, 3, 7, 15, 31, 63, 127, 127, 383, 895, 2047, 127, 4223, 16383, 32767, 65535]
theorem impl_PrefixHas.tab1 : rtab .any (opsOf Try.f100 1) = impl_PrefixHas.T1 := by kernel_rfl
theorem impl_PrefixHas.bits1 : waitsOk impl_PrefixHas.T1.2 impl_PrefixHas.B1 = true := by kernel_rfl
set_option maxHeartbeats 60000000 in
set_option maxRecDepth 100000 in
theorem impl_PrefixHas.calls (a0_0 : Int) (a0_1 : Int) (a1 : Int) (r : Bool) (w : World) (h : impl_PrefixHas.f a0_0 a0_1 a1 = some r) :
 Calls Try.prog 100 #[.agg #[.int .i64 a0_0, .int .i64 a0_1], .int .i64 a1] w fun e w' => e = .returned (.bool r) ∧ Below w.heap.size w w' := by
 have hu74 := Try.underlying74
 have HB := Aside0.mk (Below.refl w.heap.size w)
 have H : ((impl_okPrefix.f a0_0 a0_1).bind fun t253 => (if t253 = true then ((impl_isAddr.f a1).bind fun t254 => (if t254 = true then ((impl_mask.f a0_1).bind fun t255 => (some ((Go.bits .and .i64 a1 t255) == a0_0))) else (some false))) else (some false))) = some r := h
 clear h
 replace H := Option.bind_eq_some_iff.mp H
 obtain ⟨t253, A30, H⟩ := H
 replace H : (if t253 = true then ((impl_isAddr.f a1).bind fun t254 => (if t254 = true then ((impl_mask.f a0_1).bind fun t255 => (some ((Go.bits .and .i64 a1 t255) == a0_0))) else (some false))) else (some false)) = some r := H
 have A3 := Aside0.mk A30
 clear A30
 by_cases c4 : t253 = true
 subst c4
 have H1 : ((impl_isAddr.f a1).bind fun t254 => (if t254 = true then ((impl_mask.f a0_1).bind fun t255 => (some ((Go.bits .and .i64 a1 t255) == a0_0))) else (some false))) = some r := by rw [if_pos rfl] at H; exact H
 clear H
 have H := H1
 clear H1
 replace H := Option.bind_eq_some_iff.mp H
 obtain ⟨t254, A50, H⟩ := H
 replace H : (if t254 = true then ((impl_mask.f a0_1).bind fun t255 => (some ((Go.bits .and .i64 a1 t255) == a0_0))) else (some false)) = some r := H
 have A5 := Aside0.mk A50
 clear A50
 by_cases c6 : t254 = true
 subst c6
 have H1 : ((impl_mask.f a0_1).bind fun t255 => (some ((Go.bits .and .i64 a1 t255) == a0_0))) = some r := by rw [if_pos rfl] at H; exact H
 clear H
 have H := H1
 clear H1
 replace H := Option.bind_eq_some_iff.mp H
 obtain ⟨t255, A70, H⟩ := H
 replace H : (some ((Go.bits .and .i64 a1 t255) == a0_0)) = some r := H
 have A7 := Aside0.mk A70
 clear A70
 obtain rfl := Option.some.inj H
 rotate_left
 replace c6 := Bool.eq_false_iff.mpr c6
 subst c6
 have H1 : (some false) = some r := by rw [if_neg (show ¬ (false = true) by decide)] at H; exact H
 clear H
 have H := H1
 clear H1
 obtain rfl := Option.some.inj H
 rotate_left
 replace c4 := Bool.eq_false_iff.mpr c4
 subst c4
 have H1 : (some false) = some r := by rw [if_neg (show ¬ (false = true) by decide)] at H; exact H
 clear H
 have H := H1
 clear H1
 obtain rfl := Option.some.inj H
 rotate_left
 all_goals (
 go_enter Try.func100, Try.ntmps100
 try go_wp2_with (first | ((with_reducible refine gate_dst (N := 2) rfl ?_); refine box_event ?hg (N := 2) ?hd (cs := #[.int .i64 a0_0, .int .i64 a0_1]) (t := 74) ?hr ?_; (case hd => rfl); (case hg => rfl); (case hr => first | (go_simp; done) | (go_simp; rfl)); intro gb252 hg w1001 hbox hb; have n0_ := Aside0.mk (below_step wB hb); have n1_ := Aside0.mk (hbox); have n2_ := Aside0.mk ((by rw [hg]; exact (below_size wB) : w.heap.size ≤ gb252)); have n3_ := Aside0.mk ((by rw [hg]; exact (below_size wB) : w.heap.size ≤ gb252)); clear HB; have HB := n0_; have BK252 := n1_; have GW252 := n2_; have GE252 := n3_; clear n0_ n1_ n2_ n3_; clear hb hbox hg))
 have n0_ := Aside0.mk (blk_drew BK252.out)
 have n1_ := Aside0.mk (below_drew1 HB.out)
 clear BK252
 clear HB
 have BK252 := n0_
 have HB := n1_
 clear n0_ n1_
 refine start_ (n := 17) (S := fun w' => w'.cell? ⟨gb252, 0, none⟩ = some (.int .i64 a0_0) ∧ w'.cell? ⟨gb252, 1, none⟩ = some (.int .i64 a0_1)) (ds := []) #[false, false, false, false, false, false, false, false, false, false, false, false, false, false, false, false, false] (by kernel_rfl) rfl rfl ⟨(blk_cell BK252.out 0).trans rfl, (blk_cell BK252.out 1).trans rfl⟩ (fun hHeld => ?_); refine with_tabW impl_PrefixHas.tab1 impl_PrefixHas.bits1 (fun HT_ HW_ => ?_)
 generalize w1001.drew = w1002 at BK252 HB hHeld ⊢
 refine take_ (i := 0) (N := some 5) (v := ?_) (a' := ?_) #[true, false, false, false, false, false, false, false, false, false, false, false, false, false, false, false, false] rfl rfl (take_ofW HT_.out HW_.out (by kernel_rfl)) (fun _ _ _ h => h) (Or.inl ⟨by rfl, ?_⟩) hHeld ?_ ?_
 rotate_left
 {
 rintro w' ⟨s0, s1⟩
 go_simp
 with_reducible rfl
 }
 rotate_left
 {
 simp only [Act.put, List.setIfInBounds_toArray, List.set_cons_zero, List.set_cons_succ, i64_w, i32_w]
 rfl
 }
 refine one_ (i := 1) (N := some 6) #[true, true, false, false, false, false, false, false, false, false, false, false, false, false, false, false, false] rfl rfl (one_of HT_.out (by kernel_rfl)) (by decide) (fun K hK => ?_)
 refine goes_ Try.func138 (by kernel_rfl) rfl #[.agg #[.int .i64 a0_0, .int .i64 a0_1]] (by rfl) rfl rfl wT ?_
 with_reducible refine (impl_okPrefix.calls a0_0 a0_1 _ _ A3.out).mono ?_
 rintro e w1003 ⟨rfl, hb⟩
 refine ⟨_, rfl, ?_⟩
 have n0_ := Aside0.mk (blk_below (Bh BK252) hb)
 have n1_ := Aside0.mk (below_step wB hb)
 clear BK252
 clear HB
 have BK252 := n0_
 have HB := n1_
 clear n0_ n1_
 (try clear hb)
 (try clear hb2)
 (try clear hk)
 (try clear hi)
 refine hK.out _ _ ⟨(blk_cell BK252.out 0).trans rfl, (blk_cell BK252.out 1).trans rfl⟩ (fun hHeld => ?_)
 clear hK K
 refine norm_ (a' := ?_) ?_ ?_
 rotate_left
 {
 show Act.put _ (some 6) _ = _
 simp only [Act.put, List.setIfInBounds_toArray, List.set_cons_zero, List.set_cons_succ, i64_w, i32_w]
 rfl
 }
 refine pure_ (i := 2) (N := some 7) (v := ?_) (a' := ?_) #[true, true, true, false, false, false, false, false, false, false, false, false, false, false, false, false, false] rfl rfl (any_of HT_.out (by kernel_rfl)) (fun _ _ _ h => h) (Or.inl ⟨by rfl, ?_⟩) ?_ ?_
 rotate_left
 {
 intro w'
 go_simp
 with_reducible rfl
 }
 rotate_left
 {
 simp only [Act.put, List.setIfInBounds_toArray, List.set_cons_zero, List.set_cons_succ, i64_w, i32_w]
 rfl
 }
 )
 iterate 2 (
 focus (
 refine pure_ (i := 3) (N := some 8) (v := ?_) (a' := ?_) #[true, true, true, true, false, false, false, false, false, false, false, false, false, false, false, false, false] rfl rfl (any_of HT_.out (by kernel_rfl)) (fun _ _ _ h => h) (Or.inl ⟨by rfl, ?_⟩) ?_ ?_
 rotate_left
 {
 intro w'
 go_simp
 with_reducible rfl
 }
 rotate_left
 {
 simp only [Act.put, List.setIfInBounds_toArray, List.set_cons_zero, List.set_cons_succ, i64_w, i32_w]
 rfl
 }
 refine one_ (i := 4) (N := some 9) #[true, true, true, true, true, false, false, false, false, false, false, false, false, false, false, false, false] rfl rfl (one_of HT_.out (by kernel_rfl)) (by decide) (fun K hK => ?_)
 refine goes_ Try.func116 (by kernel_rfl) rfl #[.int .i64 a1] (by rfl) rfl rfl wT ?_
 with_reducible refine (impl_isAddr.calls a1 _ _ A5.out).mono ?_
 rintro e w' ⟨rfl, ⟨nd, rfl⟩⟩
 refine ⟨_, rfl, ?_⟩
 refine hK.out _ _ ⟨(blk_cell BK252.out 0).trans rfl, (blk_cell BK252.out 1).trans rfl⟩ (fun hHeld => ?_)
 clear hK K
 refine norm_ (a' := ?_) ?_ ?_
 rotate_left
 {
 show Act.put _ (some 9) _ = _
 simp only [Act.put, List.setIfInBounds_toArray, List.set_cons_zero, List.set_cons_succ, i64_w, i32_w]
 rfl
 }
 refine pure_ (i := 5) (N := some 10) (v := ?_) (a' := ?_) #[true, true, true, true, true, true, false, false, false, false, false, false, false, false, false, false, false] rfl rfl (any_of HT_.out (by kernel_rfl)) (fun _ _ _ h => h) (Or.inl ⟨by rfl, ?_⟩) ?_ ?_
 rotate_left
 {
 intro w'
 go_simp
 with_reducible rfl
 }
 rotate_left
 {
 simp only [Act.put, List.setIfInBounds_toArray, List.set_cons_zero, List.set_cons_succ, i64_w, i32_w]
 rfl
 }
 refine pure_ (i := 6) (N := some 11) (v := ?_) (a' := ?_) #[true, true, true, true, true, true, true, false, false, false, false, false, false, false, false, false, false] rfl rfl (any_of HT_.out (by kernel_rfl)) (fun _ _ _ h => h) (Or.inl ⟨by rfl, ?_⟩) ?_ ?_
 rotate_left
 {
 intro w'
 go_simp
 with_reducible rfl
 }
 rotate_left
 {
 simp only [Act.put, List.setIfInBounds_toArray, List.set_cons_zero, List.set_cons_succ, i64_w, i32_w]
 rfl
 }
 )
 rotate_left
 )
 rotate_right 2
 {
 refine pure_ (i := 7) (N := some 12) (v := ?_) (a' := ?_) #[true, true, true, true, true, true, true, true, false, false, false, false, false, false, false, false, false] rfl rfl (any_of HT_.out (by kernel_rfl)) (fun _ _ _ h => h) (Or.inl ⟨by rfl, ?_⟩) ?_ ?_
 rotate_left
 {
 intro w'
 go_simp
 with_reducible rfl
 }
 rotate_left
 {
 simp only [Act.put, List.setIfInBounds_toArray, List.set_cons_zero, List.set_cons_succ, i64_w, i32_w]
 rfl
 }
 refine pure_ (i := 8) (N := some 13) (v := ?_) (a' := ?_) #[true, true, true, true, true, true, true, true, true, false, false, false, false, false, false, false, false] rfl rfl (any_of HT_.out (by kernel_rfl)) (fun _ _ _ h => h) (Or.inl ⟨by rfl, ?_⟩) ?_ ?_
 rotate_left
 {
 intro w'
 go_simp
 with_reducible rfl
 }
 rotate_left
 {
 simp only [Act.put, List.setIfInBounds_toArray, List.set_cons_zero, List.set_cons_succ, i64_w, i32_w]
 rfl
 }
 refine pure_ (i := 12) (N := some 17) (v := ?_) (a' := ?_) #[true, true, true, true, true, true, true, true, true, false, false, false, true, false, false, false, false] rfl rfl (any_of HT_.out (by kernel_rfl)) (fun _ _ _ h => h) (Or.inl ⟨by rfl, ?_⟩) ?_ ?_
 rotate_left
 {
 intro w'
 go_simp
 with_reducible rfl
 }
 rotate_left
 {
 simp only [Act.put, List.setIfInBounds_toArray, List.set_cons_zero, List.set_cons_succ, i64_w, i32_w]
 rfl
 }
 refine take_ (i := 9) (N := some 14) (v := ?_) (a' := ?_) #[true, true, true, true, true, true, true, true, true, true, false, false, true, false, false, false, false] rfl rfl (take_ofW HT_.out HW_.out (by kernel_rfl)) (fun _ _ _ h => h) (Or.inl ⟨by rfl, ?_⟩) hHeld ?_ ?_
 rotate_left
 {
 rintro w' ⟨s0, s1⟩
 go_simp
 with_reducible rfl
 }
 rotate_left
 {
 simp only [Act.put, List.setIfInBounds_toArray, List.set_cons_zero, List.set_cons_succ, i64_w, i32_w]
 rfl
 }
 refine take_ (i := 13) (N := some 18) (v := ?_) (a' := ?_) #[true, true, true, true, true, true, true, true, true, true, false, false, true, true, false, false, false] rfl rfl (take_ofW HT_.out HW_.out (by kernel_rfl)) (fun _ _ _ h => h) (Or.inl ⟨by rfl, ?_⟩) hHeld ?_ ?_
 rotate_left
 {
 rintro w' ⟨s0, s1⟩
 go_simp
 with_reducible rfl
 }
 rotate_left
 {
 simp only [Act.put, List.setIfInBounds_toArray, List.set_cons_zero, List.set_cons_succ, i64_w, i32_w]
 rfl
 }
 refine one_ (i := 10) (N := some 15) #[true, true, true, true, true, true, true, true, true, true, true, false, true, true, false, false, false] rfl rfl (one_of HT_.out (by kernel_rfl)) (by decide) (fun K hK => ?_)
 refine goes_ Try.func140 (by kernel_rfl) rfl #[.int .i64 a0_1] (by rfl) rfl rfl wT ?_
 with_reducible refine (impl_mask.calls a0_1 t255 _ A7.out).mono ?_
 rintro e w' ⟨rfl, ⟨nd, rfl⟩⟩
 refine ⟨_, rfl, ?_⟩
 refine hK.out _ _ ⟨(blk_cell BK252.out 0).trans rfl, (blk_cell BK252.out 1).trans rfl⟩ (fun hHeld => ?_)
 clear hK K
 refine norm_ (a' := ?_) ?_ ?_
 rotate_left
 {
 show Act.put _ (some 15) _ = _
 simp only [Act.put, List.setIfInBounds_toArray, List.set_cons_zero, List.set_cons_succ, i64_w, i32_w]
 rfl
 }
 refine pure_ (i := 11) (N := some 16) (v := ?_) (a' := ?_) #[true, true, true, true, true, true, true, true, true, true, true, true, true, true, false, false, false] rfl rfl (any_of HT_.out (by kernel_rfl)) (fun _ _ _ h => h) (Or.inl ⟨by rfl, ?_⟩) ?_ ?_
 rotate_left
 {
 intro w'
 go_simp
 with_reducible rfl
 }
 rotate_left
 {
 simp only [Act.put, List.setIfInBounds_toArray, List.set_cons_zero, List.set_cons_succ, i64_w, i32_w]
 rfl
 }
 refine pure_ (i := 14) (N := some 19) (v := ?_) (a' := ?_) #[true, true, true, true, true, true, true, true, true, true, true, true, true, true, true, false, false] rfl rfl (any_of HT_.out (by kernel_rfl)) (fun _ _ _ h => h) (Or.inl ⟨by rfl, ?_⟩) ?_ ?_
 rotate_left
 {
 intro w'
 go_simp
 with_reducible rfl
 }
 rotate_left
 {
 simp only [Act.put, List.setIfInBounds_toArray, List.set_cons_zero, List.set_cons_succ, i64_w, i32_w]
 rfl
 }
 refine pure_ (i := 15) (N := some 20) (v := ?_) (a' := ?_) #[true, true, true, true, true, true, true, true, true, true, true, true, true, true, true, true, false] rfl rfl (any_of HT_.out (by kernel_rfl)) (fun _ _ _ h => h) (Or.inl ⟨by rfl, ?_⟩) ?_ ?_
 rotate_left
 {
 intro w'
 go_simp
 with_reducible rfl
 }
 rotate_left
 {
 simp only [Act.put, List.setIfInBounds_toArray, List.set_cons_zero, List.set_cons_succ, i64_w, i32_w]
 rfl
 }
 refine pure_ (i := 16) (N := some 4) (v := ?_) (a' := ?_) #[true, true, true, true, true, true, true, true, true, true, true, true, true, true, true, true, true] rfl rfl (any_of HT_.out (by kernel_rfl)) (fun _ _ _ h => h) (Or.inl ⟨by rfl, ?_⟩) ?_ ?_
 rotate_left
 {
 intro w'
 go_simp
 with_reducible rfl
 }
 rotate_left
 {
 simp only [Act.put, List.setIfInBounds_toArray, List.set_cons_zero, List.set_cons_succ, i64_w, i32_w]
 rfl
 }
 refine done_ (done_of HT_.out (by kernel_rfl)) ?_
 try go_wp2
 go_ret
 exact ⟨by first | rfl | (simp [errW_none, errW_some] <;> rfl) | (simp [*, errW_none, errW_some] <;> rfl), wB⟩
 }
 {
 refine pure_ (i := 7) (N := some 12) (v := undef) (a' := ?_) #[true, true, true, true, true, true, true, true, false, false, false, false, false, false, false, false, false] rfl rfl (any_of HT_.out (by kernel_rfl)) (fun _ _ _ h => h) (Or.inr ⟨by rfl, rfl⟩) ?_ ?_
 rotate_left
 {
 simp only [Act.put, List.setIfInBounds_toArray, List.set_cons_zero, List.set_cons_succ, i64_w, i32_w]
 rfl
 }
 refine pure_ (i := 8) (N := some 13) (v := undef) (a' := ?_) #[true, true, true, true, true, true, true, true, true, false, false, false, false, false, false, false, false] rfl rfl (any_of HT_.out (by kernel_rfl)) (fun _ _ _ h => h) (Or.inr ⟨by rfl, rfl⟩) ?_ ?_
 rotate_left
 {
 simp only [Act.put, List.setIfInBounds_toArray, List.set_cons_zero, List.set_cons_succ, i64_w, i32_w]
 rfl
 }
 refine pure_ (i := 9) (N := some 14) (v := undef) (a' := ?_) #[true, true, true, true, true, true, true, true, true, true, false, false, false, false, false, false, false] rfl rfl (any_of HT_.out (by kernel_rfl)) (fun _ _ _ h => h) (Or.inr ⟨by rfl, rfl⟩) ?_ ?_
 rotate_left
 {
 simp only [Act.put, List.setIfInBounds_toArray, List.set_cons_zero, List.set_cons_succ, i64_w, i32_w]
 rfl
 }
 refine pure_ (i := 10) (N := some 15) (v := undef) (a' := ?_) #[true, true, true, true, true, true, true, true, true, true, true, false, false, false, false, false, false] rfl rfl (any_of HT_.out (by kernel_rfl)) (fun _ _ _ h => h) (Or.inr ⟨by rfl, rfl⟩) ?_ ?_
 rotate_left
 {
 simp only [Act.put, List.setIfInBounds_toArray, List.set_cons_zero, List.set_cons_succ, i64_w, i32_w]
 rfl
 }
 refine pure_ (i := 11) (N := some 16) (v := undef) (a' := ?_) #[true, true, true, true, true, true, true, true, true, true, true, true, false, false, false, false, false] rfl rfl (any_of HT_.out (by kernel_rfl)) (fun _ _ _ h => h) (Or.inr ⟨by rfl, rfl⟩) ?_ ?_
 rotate_left
 {
 simp only [Act.put, List.setIfInBounds_toArray, List.set_cons_zero, List.set_cons_succ, i64_w, i32_w]
 rfl
 }
 refine pure_ (i := 12) (N := some 17) (v := undef) (a' := ?_) #[true, true, true, true, true, true, true, true, true, true, true, true, true, false, false, false, false] rfl rfl (any_of HT_.out (by kernel_rfl)) (fun _ _ _ h => h) (Or.inr ⟨by rfl, rfl⟩) ?_ ?_
 rotate_left
 {
 simp only [Act.put, List.setIfInBounds_toArray, List.set_cons_zero, List.set_cons_succ, i64_w, i32_w]
 rfl
 }
 refine pure_ (i := 13) (N := some 18) (v := undef) (a' := ?_) #[true, true, true, true, true, true, true, true, true, true, true, true, true, true, false, false, false] rfl rfl (any_of HT_.out (by kernel_rfl)) (fun _ _ _ h => h) (Or.inr ⟨by rfl, rfl⟩) ?_ ?_
 rotate_left
 {
 simp only [Act.put, List.setIfInBounds_toArray, List.set_cons_zero, List.set_cons_succ, i64_w, i32_w]
 rfl
 }
 refine pure_ (i := 14) (N := some 19) (v := undef) (a' := ?_) #[true, true, true, true, true, true, true, true, true, true, true, true, true, true, true, false, false] rfl rfl (any_of HT_.out (by kernel_rfl)) (fun _ _ _ h => h) (Or.inr ⟨by rfl, rfl⟩) ?_ ?_
 rotate_left
 {
 simp only [Act.put, List.setIfInBounds_toArray, List.set_cons_zero, List.set_cons_succ, i64_w, i32_w]
 rfl
 }
 refine pure_ (i := 15) (N := some 20) (v := ?_) (a' := ?_) #[true, true, true, true, true, true, true, true, true, true, true, true, true, true, true, true, false] rfl rfl (any_of HT_.out (by kernel_rfl)) (fun _ _ _ h => h) (Or.inl ⟨by rfl, ?_⟩) ?_ ?_
 rotate_left
 {
 intro w'
 go_simp
 with_reducible rfl
 }
 rotate_left
 {
 simp only [Act.put, List.setIfInBounds_toArray, List.set_cons_zero, List.set_cons_succ, i64_w, i32_w]
 rfl
 }
 refine pure_ (i := 16) (N := some 4) (v := ?_) (a' := ?_) #[true, true, true, true, true, true, true, true, true, true, true, true, true, true, true, true, true] rfl rfl (any_of HT_.out (by kernel_rfl)) (fun _ _ _ h => h) (Or.inl ⟨by rfl, ?_⟩) ?_ ?_
 rotate_left
 {
 intro w'
 go_simp
 with_reducible rfl
 }
 rotate_left
 {
 simp only [Act.put, List.setIfInBounds_toArray, List.set_cons_zero, List.set_cons_succ, i64_w, i32_w]
 rfl
 }
 refine done_ (done_of HT_.out (by kernel_rfl)) ?_
 try go_wp2
 go_ret
 exact ⟨by first | rfl | (simp [errW_none, errW_some] <;> rfl) | (simp [*, errW_none, errW_some] <;> rfl), wB⟩
 }
 {
 refine pure_ (i := 3) (N := some 8) (v := undef) (a' := ?_) #[true, true, true, true, false, false, false, false, false, false, false, false, false, false, false, false, false] rfl rfl (any_of HT_.out (by kernel_rfl)) (fun _ _ _ h => h) (Or.inr ⟨by rfl, rfl⟩) ?_ ?_
 rotate_left
 {
 simp only [Act.put, List.setIfInBounds_toArray, List.set_cons_zero, List.set_cons_succ, i64_w, i32_w]
 rfl
 }
 refine pure_ (i := 4) (N := some 9) (v := undef) (a' := ?_) #[true, true, true, true, true, false, false, false, false, false, false, false, false, false, false, false, false] rfl rfl (any_of HT_.out (by kernel_rfl)) (fun _ _ _ h => h) (Or.inr ⟨by rfl, rfl⟩) ?_ ?_
 rotate_left
 {
 simp only [Act.put, List.setIfInBounds_toArray, List.set_cons_zero, List.set_cons_succ, i64_w, i32_w]
 rfl
 }
 refine pure_ (i := 5) (N := some 10) (v := ?_) (a' := ?_) #[true, true, true, true, true, true, false, false, false, false, false, false, false, false, false, false, false] rfl rfl (any_of HT_.out (by kernel_rfl)) (fun _ _ _ h => h) (Or.inl ⟨by rfl, ?_⟩) ?_ ?_
 rotate_left
 {
 intro w'
 go_simp
 with_reducible rfl
 }
 rotate_left
 {
 simp only [Act.put, List.setIfInBounds_toArray, List.set_cons_zero, List.set_cons_succ, i64_w, i32_w]
 rfl
 }
 refine pure_ (i := 6) (N := some 11) (v := ?_) (a' := ?_) #[true, true, true, true, true, true, true, false, false, false, false, false, false, false, false, false, false] rfl rfl (any_of HT_.out (by kernel_rfl)) (fun _ _ _ h => h) (Or.inl ⟨by rfl, ?_⟩) ?_ ?_
 rotate_left
 {
 intro w'
 go_simp
 with_reducible rfl
 }
 rotate_left
 {
 simp only [Act.put, List.setIfInBounds_toArray, List.set_cons_zero, List.set_cons_succ, i64_w, i32_w]
 rfl
 }
 refine pure_ (i := 7) (N := some 12) (v := undef) (a' := ?_) #[true, true, true, true, true, true, true, true, false, false, false, false, false, false, false, false, false] rfl rfl (any_of HT_.out (by kernel_rfl)) (fun _ _ _ h => h) (Or.inr ⟨by rfl, rfl⟩) ?_ ?_
 rotate_left
 {
 simp only [Act.put, List.setIfInBounds_toArray, List.set_cons_zero, List.set_cons_succ, i64_w, i32_w]
 rfl
 }
 refine pure_ (i := 8) (N := some 13) (v := undef) (a' := ?_) #[true, true, true, true, true, true, true, true, true, false, false, false, false, false, false, false, false] rfl rfl (any_of HT_.out (by kernel_rfl)) (fun _ _ _ h => h) (Or.inr ⟨by rfl, rfl⟩) ?_ ?_
 rotate_left
 {
 simp only [Act.put, List.setIfInBounds_toArray, List.set_cons_zero, List.set_cons_succ, i64_w, i32_w]
 rfl
 }
 refine pure_ (i := 9) (N := some 14) (v := undef) (a' := ?_) #[true, true, true, true, true, true, true, true, true, true, false, false, false, false, false, false, false] rfl rfl (any_of HT_.out (by kernel_rfl)) (fun _ _ _ h => h) (Or.inr ⟨by rfl, rfl⟩) ?_ ?_
 rotate_left
 {
 simp only [Act.put, List.setIfInBounds_toArray, List.set_cons_zero, List.set_cons_succ, i64_w, i32_w]
 rfl
 }
 refine pure_ (i := 10) (N := some 15) (v := undef) (a' := ?_) #[true, true, true, true, true, true, true, true, true, true, true, false, false, false, false, false, false] rfl rfl (any_of HT_.out (by kernel_rfl)) (fun _ _ _ h => h) (Or.inr ⟨by rfl, rfl⟩) ?_ ?_
 rotate_left
 {
 simp only [Act.put, List.setIfInBounds_toArray, List.set_cons_zero, List.set_cons_succ, i64_w, i32_w]
 rfl
 }
 refine pure_ (i := 11) (N := some 16) (v := undef) (a' := ?_) #[true, true, true, true, true, true, true, true, true, true, true, true, false, false, false, false, false] rfl rfl (any_of HT_.out (by kernel_rfl)) (fun _ _ _ h => h) (Or.inr ⟨by rfl, rfl⟩) ?_ ?_
 rotate_left
 {
 simp only [Act.put, List.setIfInBounds_toArray, List.set_cons_zero, List.set_cons_succ, i64_w, i32_w]
 rfl
 }
 refine pure_ (i := 12) (N := some 17) (v := undef) (a' := ?_) #[true, true, true, true, true, true, true, true, true, true, true, true, true, false, false, false, false] rfl rfl (any_of HT_.out (by kernel_rfl)) (fun _ _ _ h => h) (Or.inr ⟨by rfl, rfl⟩) ?_ ?_
 rotate_left
 {
 simp only [Act.put, List.setIfInBounds_toArray, List.set_cons_zero, List.set_cons_succ, i64_w, i32_w]
 rfl
 }
 refine pure_ (i := 13) (N := some 18) (v := undef) (a' := ?_) #[true, true, true, true, true, true, true, true, true, true, true, true, true, true, false, false, false] rfl rfl (any_of HT_.out (by kernel_rfl)) (fun _ _ _ h => h) (Or.inr ⟨by rfl, rfl⟩) ?_ ?_
 rotate_left
 {
 simp only [Act.put, List.setIfInBounds_toArray, List.set_cons_zero, List.set_cons_succ, i64_w, i32_w]
 rfl
 }
 refine pure_ (i := 14) (N := some 19) (v := undef) (a' := ?_) #[true, true, true, true, true, true, true, true, true, true, true, true, true, true, true, false, false] rfl rfl (any_of HT_.out (by kernel_rfl)) (fun _ _ _ h => h) (Or.inr ⟨by rfl, rfl⟩) ?_ ?_
 rotate_left
 {
 simp only [Act.put, List.setIfInBounds_toArray, List.set_cons_zero, List.set_cons_succ, i64_w, i32_w]
 rfl
 }
 refine pure_ (i := 15) (N := some 20) (v := ?_) (a' := ?_) #[true, true, true, true, true, true, true, true, true, true, true, true, true, true, true, true, false] rfl rfl (any_of HT_.out (by kernel_rfl)) (fun _ _ _ h => h) (Or.inl ⟨by rfl, ?_⟩) ?_ ?_
 rotate_left
 {
 intro w'
 go_simp
 with_reducible rfl
 }
 rotate_left
 {
 simp only [Act.put, List.setIfInBounds_toArray, List.set_cons_zero, List.set_cons_succ, i64_w, i32_w]
 rfl
 }
 refine pure_ (i := 16) (N := some 4) (v := ?_) (a' := ?_) #[true, true, true, true, true, true, true, true, true, true, true, true, true, true, true, true, true] rfl rfl (any_of HT_.out (by kernel_rfl)) (fun _ _ _ h => h) (Or.inl ⟨by rfl, ?_⟩) ?_ ?_
 rotate_left
 {
 intro w'
 go_simp
 with_reducible rfl
 }
 rotate_left
 {
 simp only [Act.put, List.setIfInBounds_toArray, List.set_cons_zero, List.set_cons_succ, i64_w, i32_w]
 rfl
 }
 refine done_ (done_of HT_.out (by kernel_rfl)) ?_
 try go_wp2
 go_ret
 exact ⟨by first | rfl | (simp [errW_none, errW_some] <;> rfl) | (simp [*, errW_none, errW_some] <;> rfl), wB⟩
 }

/-! ### impl_FindRoute: function 44 -/
def impl_FindRoute.l0 : Nat → Int → Bool → List (S76) → Int → Int → Int → Int → Int → Int → Int → Option (Int × Int × Int × Int × Int × Bool)
  | 0, _, _, _, _, _, _, _, _, _, _ => none
  | k + 1, x1, x7, x10, x11, x12, x258000, x258001, x258002, x258003, x258004 => if x12 < x11 then (if 0 ≤ x12 then (if x12 < (x10.length : Int) then ((impl_okRoute.f ((rd_T76 x10 x12).f0.f0) ((rd_T76 x10 x12).f0.f1) ((rd_T76 x10 x12).f1) ((rd_T76 x10 x12).f2) ((rd_T76 x10 x12).f3)).bind fun t260 => (if t260 = true then ((impl_PrefixHas.f ((rd_T76 x10 x12).f0.f0) ((rd_T76 x10 x12).f0.f1) x1).bind fun t261 => (if t261 = true then (if x7 = true then (if ((rd_T76 x10 x12).f0.f1) > x258001 then (impl_FindRoute.l0 k x1 true x10 x11 (wrap64 (x12 + 1)) ((rd_T76 x10 x12).f0.f0) ((rd_T76 x10 x12).f0.f1) ((rd_T76 x10 x12).f1) ((rd_T76 x10 x12).f2) ((rd_T76 x10 x12).f3)) else (if ((rd_T76 x10 x12).f0.f1) = x258001 then (if ((rd_T76 x10 x12).f3) < x258004 then (impl_FindRoute.l0 k x1 true x10 x11 (wrap64 (x12 + 1)) ((rd_T76 x10 x12).f0.f0) ((rd_T76 x10 x12).f0.f1) ((rd_T76 x10 x12).f1) ((rd_T76 x10 x12).f2) ((rd_T76 x10 x12).f3)) else (impl_FindRoute.l0 k x1 x7 x10 x11 (wrap64 (x12 + 1)) x258000 x258001 x258002 x258003 x258004)) else (impl_FindRoute.l0 k x1 x7 x10 x11 (wrap64 (x12 + 1)) x258000 x258001 x258002 x258003 x258004))) else (impl_FindRoute.l0 k x1 true x10 x11 (wrap64 (x12 + 1)) ((rd_T76 x10 x12).f0.f0) ((rd_T76 x10 x12).f0.f1) ((rd_T76 x10 x12).f1) ((rd_T76 x10 x12).f2) ((rd_T76 x10 x12).f3))) else (impl_FindRoute.l0 k x1 x7 x10 x11 (wrap64 (x12 + 1)) x258000 x258001 x258002 x258003 x258004))) else (impl_FindRoute.l0 k x1 x7 x10 x11 (wrap64 (x12 + 1)) x258000 x258001 x258002 x258003 x258004))) else (none)) else (none)) else (some (x258000, x258001, x258002, x258003, x258004, x7))
def impl_FindRoute.f (k : Nat) (l0 : List (S76)) (a1 : Int) : Option (Int × Int × Int × Int × Int × Bool) := impl_FindRoute.l0 k a1 false l0 (l0.length : Int) 0 0 0 0 0 0
theorem impl_FindRoute.mono_l : ∀ k, (∀ y0 y1 y2 y3 y4 y5 y6 y7 y8 y9, LeO (impl_FindRoute.l0 k y0 y1 y2 y3 y4 y5 y6 y7 y8 y9) (impl_FindRoute.l0 (k + 1) y0 y1 y2 y3 y4 y5 y6 y7 y8 y9))
  | 0 => fun _ _ _ _ _ _ _ _ _ _ r h => by simp [impl_FindRoute.l0] at h
  | k + 1 => by
    have ih0 := impl_FindRoute.mono_l k
    · intro y0 y1 y2 y3 y4 y5 y6 y7 y8 y9
      unfold impl_FindRoute.l0
      repeat' first
      | (with_reducible exact ih0 _ _ _ _ _ _ _ _ _ _)
      | (with_reducible exact LeO.refl _)
      | (with_reducible exact LeO.none _)
      | (with_reducible refine LeO.ite ?_ ?_)
      | (with_reducible refine LeO.bind ?_ (fun _ => ?_))
      | exact ih0 _ _ _ _ _ _ _ _ _ _
      | exact LeO.none _
      | refine LeO.ite ?_ ?_
      | refine LeO.bind ?_ (fun _ => ?_)
theorem impl_FindRoute.mono : ∀ a0 a1 k, LeO (impl_FindRoute.f k a0 a1) (impl_FindRoute.f (k + 1) a0 a1) := by
 intro a0 a1 k
 have ih0 := impl_FindRoute.mono_l k
 unfold impl_FindRoute.f
 repeat' first
     | (with_reducible exact ih0 _ _ _ _ _ _ _ _ _ _)
     | (with_reducible exact LeO.refl _)
     | (with_reducible exact LeO.none _)
     | (with_reducible refine LeO.ite ?_ ?_)
     | (with_reducible refine LeO.bind ?_ (fun _ => ?_))
     | exact ih0 _ _ _ _ _ _ _ _ _ _
     | exact LeO.none _
     | refine LeO.ite ?_ ?_
     | refine LeO.bind ?_ (fun _ => ?_)
set_option maxHeartbeats 60000000 in
set_option maxRecDepth 100000 in
theorem impl_FindRoute.calls (k : Nat) (A0 : Option Addr) (c0 : Nat) (l0 : List (S76)) (a1 : Int) (r1 : Int) (r2 : Int) (r3 : Int) (r4 : Int) (r5 : Int) (r6 : Bool) (w : World) (hr0 : Kd.C k76 w A0 l0.length l0) (hc0 : l0.length ≤ c0) (h : impl_FindRoute.f k l0 a1 = some (r1, r2, r3, r4, r5, r6)) :
 Calls Try.prog 44 #[.slice A0 l0.length c0, .int .i64 a1] w fun e w' => e = .returned (.tuple #[.agg #[.int .i64 r1, .int .i64 r2, .int .i64 r3, .int .i64 r4, .int .i64 r5], .bool r6]) ∧ Below w.heap.size w w' := by
 have hu76 := Try.underlying76
 have hu74 := Try.underlying74
 have HR0 := Aside0.mk hr0
 have HC0 := Aside0.mk hc0
 clear hr0 hc0
 have HB := Aside0.mk (Below.refl w.heap.size w)
 have H : (impl_FindRoute.l0 k a1 false l0 (l0.length : Int) 0 0 0 0 0 0) = some (r1, r2, r3, r4, r5, r6) := h
 clear h
 have H' := Aside0.mk H
 clear H
 go_enter Try.func44, Try.ntmps44
 go_wp2_with (first | ((with_reducible refine gate_dst (N := 4) rfl ?_); refine box_event ?hg (N := 4) ?hd (cs := #[.int .i64 0, .int .i64 0, .int .i64 0, .int .i64 0, .int .i64 0]) (t := 76) ?hr ?_; (case hd => rfl); (case hg => rfl); (case hr => first | (go_simp; done) | (go_simp; rfl)); intro gb256 hg w1001 hbox hb; have n0_ := Aside0.mk (below_step wB hb); have n1_ := Aside0.mk (hbox); have n2_ := Aside0.mk ((by rw [hg]; exact (below_size wB) : w.heap.size ≤ gb256)); have n3_ := Aside0.mk ((by rw [hg]; exact (below_size wB) : w.heap.size ≤ gb256)); clear HB; have HB := n0_; have BK256 := n1_; have GW256 := n2_; have GE256 := n3_; clear n0_ n1_ n2_ n3_; clear hb hbox hg) | ((with_reducible refine gate_dst (N := 6) rfl ?_); refine box_event ?hg (N := 6) ?hd (cs := #[.int .i64 0, .int .i64 0, .int .i64 0, .int .i64 0, .int .i64 0]) (t := 76) ?hr ?_; (case hd => rfl); (case hg => rfl); (case hr => first | (go_simp; done) | (go_simp; rfl)); intro gb257 hg w1002 hbox hb; have n0_ := Aside0.mk (blk_below (Bh BK256) hb); have n1_ := Aside0.mk (below_step wB hb); have n2_ := Aside0.mk (hbox); have n3_ := Aside0.mk ((by rw [hg]; exact (below_size wB) : w.heap.size ≤ gb257)); have n4_ := Aside0.mk ((by rw [hg]; exact (below_size wB) : w.heap.size ≤ gb257)); have n5_ := Aside0.mk ((by rw [hg]; exact Nat.ne_of_lt (blk_lt (Bh BK256)) : gb256 ≠ gb257)); have n6_ := Aside0.mk ((by rw [hg]; exact Nat.ne_of_gt (blk_lt (Bh BK256)) : gb257 ≠ gb256)); clear BK256; clear HB; have BK256 := n0_; have HB := n1_; have BK257 := n2_; have GW257 := n3_; have GE257 := n4_; have NB256_257 := n5_; have NB257_256 := n6_; clear n0_ n1_ n2_ n3_ n4_ n5_ n6_; clear hb hbox hg))
 all_goals (try (rename_i h_; exfalso; cases h_; done))
 all_goals (try (rename_i h_ h2_; exfalso; cases h_; done))
 go_loopg [7, 12] k (fun kq v7 v12 w' => ∃ (x7_1 : Bool) (x12_1 : Int) (x258000_1 : Int) (x258001_1 : Int) (x258002_1 : Int) (x258003_1 : Int) (x258004_1 : Int), v7 = .bool x7_1 ∧ v12 = .int .i64 x12_1 ∧ Aside0 (impl_FindRoute.l0 kq a1 x7_1 l0 (l0.length : Int) x12_1 x258000_1 x258001_1 x258002_1 x258003_1 x258004_1 = some (r1, r2, r3, r4, r5, r6)) ∧ Aside0 (kq ≤ k) ∧ Aside0 (w'.heap[gb256]? = some (.cells #[.int .i64 0, .int .i64 0, .int .i64 0, .int .i64 0, .int .i64 0] 76 (0, 0))) ∧ Aside0 (w'.heap[gb257]? = some (.cells #[.int .i64 x258000_1, .int .i64 x258001_1, .int .i64 x258002_1, .int .i64 x258003_1, .int .i64 x258004_1] 76 (0, 0))) ∧ Aside0 (Below w.heap.size w w'))
 case atStart => exact ⟨(false), (0), (0), (0), (0), (0), (0), (by first | rfl | (simp; done) | (simp [*]; done)), (by first | rfl | (simp; done) | (simp [*]; done)), H', ⟨Nat.le_refl _⟩, ⟨Bh BK256⟩, ⟨Bh BK257⟩, ⟨wB⟩⟩
 case round => (
 clear H'
 obtain ⟨x7_1, x12_1, x258000_1, x258001_1, x258002_1, x258003_1, x258004_1, rfl, rfl, HA, HK1, BK256, BK257, HB⟩ := hrel
 cases gk with
 | zero => exact absurd HA.out (by simp [impl_FindRoute.l0])
 | succ k1 => {
 have H := HA.out
 clear HA
 simp only [impl_FindRoute.l0] at H
 by_cases c1003 : x12_1 < (l0.length : Int)
 rw [if_pos c1003] at H
 have c1003b0 : decide (x12_1 < (l0.length : Int)) = true := decide_eq_true c1003
 clear c1003
 by_cases c1004 : 0 ≤ x12_1
 rw [if_pos c1004] at H
 have c1004b0 : decide (0 ≤ x12_1) = true := decide_eq_true c1004
 clear c1004
 by_cases c1005 : x12_1 < (l0.length : Int)
 rw [if_pos c1005] at H
 have c1005b0 : decide (x12_1 < (l0.length : Int)) = true := decide_eq_true c1005
 clear c1005
 replace H := Option.bind_eq_some_iff.mp H
 obtain ⟨t260, A10060, H⟩ := H
 replace H : (if t260 = true then ((impl_PrefixHas.f ((rd_T76 l0 x12_1).f0.f0) ((rd_T76 l0 x12_1).f0.f1) a1).bind fun t261 => (if t261 = true then (if x7_1 = true then (if ((rd_T76 l0 x12_1).f0.f1) > x258001_1 then (impl_FindRoute.l0 k1 a1 true l0 (l0.length : Int) (wrap64 (x12_1 + 1)) ((rd_T76 l0 x12_1).f0.f0) ((rd_T76 l0 x12_1).f0.f1) ((rd_T76 l0 x12_1).f1) ((rd_T76 l0 x12_1).f2) ((rd_T76 l0 x12_1).f3)) else (if ((rd_T76 l0 x12_1).f0.f1) = x258001_1 then (if ((rd_T76 l0 x12_1).f3) < x258004_1 then (impl_FindRoute.l0 k1 a1 true l0 (l0.length : Int) (wrap64 (x12_1 + 1)) ((rd_T76 l0 x12_1).f0.f0) ((rd_T76 l0 x12_1).f0.f1) ((rd_T76 l0 x12_1).f1) ((rd_T76 l0 x12_1).f2) ((rd_T76 l0 x12_1).f3)) else (impl_FindRoute.l0 k1 a1 x7_1 l0 (l0.length : Int) (wrap64 (x12_1 + 1)) x258000_1 x258001_1 x258002_1 x258003_1 x258004_1)) else (impl_FindRoute.l0 k1 a1 x7_1 l0 (l0.length : Int) (wrap64 (x12_1 + 1)) x258000_1 x258001_1 x258002_1 x258003_1 x258004_1))) else (impl_FindRoute.l0 k1 a1 true l0 (l0.length : Int) (wrap64 (x12_1 + 1)) ((rd_T76 l0 x12_1).f0.f0) ((rd_T76 l0 x12_1).f0.f1) ((rd_T76 l0 x12_1).f1) ((rd_T76 l0 x12_1).f2) ((rd_T76 l0 x12_1).f3))) else (impl_FindRoute.l0 k1 a1 x7_1 l0 (l0.length : Int) (wrap64 (x12_1 + 1)) x258000_1 x258001_1 x258002_1 x258003_1 x258004_1))) else (impl_FindRoute.l0 k1 a1 x7_1 l0 (l0.length : Int) (wrap64 (x12_1 + 1)) x258000_1 x258001_1 x258002_1 x258003_1 x258004_1)) = some (r1, r2, r3, r4, r5, r6) := H
 have A1006 := Aside0.mk A10060
 clear A10060
 by_cases c1007 : t260 = true
 subst c1007
 have H1 : ((impl_PrefixHas.f ((rd_T76 l0 x12_1).f0.f0) ((rd_T76 l0 x12_1).f0.f1) a1).bind fun t261 => (if t261 = true then (if x7_1 = true then (if ((rd_T76 l0 x12_1).f0.f1) > x258001_1 then (impl_FindRoute.l0 k1 a1 true l0 (l0.length : Int) (wrap64 (x12_1 + 1)) ((rd_T76 l0 x12_1).f0.f0) ((rd_T76 l0 x12_1).f0.f1) ((rd_T76 l0 x12_1).f1) ((rd_T76 l0 x12_1).f2) ((rd_T76 l0 x12_1).f3)) else (if ((rd_T76 l0 x12_1).f0.f1) = x258001_1 then (if ((rd_T76 l0 x12_1).f3) < x258004_1 then (impl_FindRoute.l0 k1 a1 true l0 (l0.length : Int) (wrap64 (x12_1 + 1)) ((rd_T76 l0 x12_1).f0.f0) ((rd_T76 l0 x12_1).f0.f1) ((rd_T76 l0 x12_1).f1) ((rd_T76 l0 x12_1).f2) ((rd_T76 l0 x12_1).f3)) else (impl_FindRoute.l0 k1 a1 x7_1 l0 (l0.length : Int) (wrap64 (x12_1 + 1)) x258000_1 x258001_1 x258002_1 x258003_1 x258004_1)) else (impl_FindRoute.l0 k1 a1 x7_1 l0 (l0.length : Int) (wrap64 (x12_1 + 1)) x258000_1 x258001_1 x258002_1 x258003_1 x258004_1))) else (impl_FindRoute.l0 k1 a1 true l0 (l0.length : Int) (wrap64 (x12_1 + 1)) ((rd_T76 l0 x12_1).f0.f0) ((rd_T76 l0 x12_1).f0.f1) ((rd_T76 l0 x12_1).f1) ((rd_T76 l0 x12_1).f2) ((rd_T76 l0 x12_1).f3))) else (impl_FindRoute.l0 k1 a1 x7_1 l0 (l0.length : Int) (wrap64 (x12_1 + 1)) x258000_1 x258001_1 x258002_1 x258003_1 x258004_1))) = some (r1, r2, r3, r4, r5, r6) := by rw [if_pos rfl] at H; exact H
 clear H
 have H := H1
 clear H1
 replace H := Option.bind_eq_some_iff.mp H
 obtain ⟨t261, A10080, H⟩ := H
 replace H : (if t261 = true then (if x7_1 = true then (if ((rd_T76 l0 x12_1).f0.f1) > x258001_1 then (impl_FindRoute.l0 k1 a1 true l0 (l0.length : Int) (wrap64 (x12_1 + 1)) ((rd_T76 l0 x12_1).f0.f0) ((rd_T76 l0 x12_1).f0.f1) ((rd_T76 l0 x12_1).f1) ((rd_T76 l0 x12_1).f2) ((rd_T76 l0 x12_1).f3)) else (if ((rd_T76 l0 x12_1).f0.f1) = x258001_1 then (if ((rd_T76 l0 x12_1).f3) < x258004_1 then (impl_FindRoute.l0 k1 a1 true l0 (l0.length : Int) (wrap64 (x12_1 + 1)) ((rd_T76 l0 x12_1).f0.f0) ((rd_T76 l0 x12_1).f0.f1) ((rd_T76 l0 x12_1).f1) ((rd_T76 l0 x12_1).f2) ((rd_T76 l0 x12_1).f3)) else (impl_FindRoute.l0 k1 a1 x7_1 l0 (l0.length : Int) (wrap64 (x12_1 + 1)) x258000_1 x258001_1 x258002_1 x258003_1 x258004_1)) else (impl_FindRoute.l0 k1 a1 x7_1 l0 (l0.length : Int) (wrap64 (x12_1 + 1)) x258000_1 x258001_1 x258002_1 x258003_1 x258004_1))) else (impl_FindRoute.l0 k1 a1 true l0 (l0.length : Int) (wrap64 (x12_1 + 1)) ((rd_T76 l0 x12_1).f0.f0) ((rd_T76 l0 x12_1).f0.f1) ((rd_T76 l0 x12_1).f1) ((rd_T76 l0 x12_1).f2) ((rd_T76 l0 x12_1).f3))) else (impl_FindRoute.l0 k1 a1 x7_1 l0 (l0.length : Int) (wrap64 (x12_1 + 1)) x258000_1 x258001_1 x258002_1 x258003_1 x258004_1)) = some (r1, r2, r3, r4, r5, r6) := H
 have A1008 := Aside0.mk A10080
 clear A10080
 by_cases c1009 : t261 = true
 subst c1009
 have H1 : (if x7_1 = true then (if ((rd_T76 l0 x12_1).f0.f1) > x258001_1 then (impl_FindRoute.l0 k1 a1 true l0 (l0.length : Int) (wrap64 (x12_1 + 1)) ((rd_T76 l0 x12_1).f0.f0) ((rd_T76 l0 x12_1).f0.f1) ((rd_T76 l0 x12_1).f1) ((rd_T76 l0 x12_1).f2) ((rd_T76 l0 x12_1).f3)) else (if ((rd_T76 l0 x12_1).f0.f1) = x258001_1 then (if ((rd_T76 l0 x12_1).f3) < x258004_1 then (impl_FindRoute.l0 k1 a1 true l0 (l0.length : Int) (wrap64 (x12_1 + 1)) ((rd_T76 l0 x12_1).f0.f0) ((rd_T76 l0 x12_1).f0.f1) ((rd_T76 l0 x12_1).f1) ((rd_T76 l0 x12_1).f2) ((rd_T76 l0 x12_1).f3)) else (impl_FindRoute.l0 k1 a1 x7_1 l0 (l0.length : Int) (wrap64 (x12_1 + 1)) x258000_1 x258001_1 x258002_1 x258003_1 x258004_1)) else (impl_FindRoute.l0 k1 a1 x7_1 l0 (l0.length : Int) (wrap64 (x12_1 + 1)) x258000_1 x258001_1 x258002_1 x258003_1 x258004_1))) else (impl_FindRoute.l0 k1 a1 true l0 (l0.length : Int) (wrap64 (x12_1 + 1)) ((rd_T76 l0 x12_1).f0.f0) ((rd_T76 l0 x12_1).f0.f1) ((rd_T76 l0 x12_1).f1) ((rd_T76 l0 x12_1).f2) ((rd_T76 l0 x12_1).f3))) = some (r1, r2, r3, r4, r5, r6) := by rw [if_pos rfl] at H; exact H
 clear H
 have H := H1
 clear H1
 by_cases c1010 : x7_1 = true
 subst c1010
 have H1 : (if ((rd_T76 l0 x12_1).f0.f1) > x258001_1 then (impl_FindRoute.l0 k1 a1 true l0 (l0.length : Int) (wrap64 (x12_1 + 1)) ((rd_T76 l0 x12_1).f0.f0) ((rd_T76 l0 x12_1).f0.f1) ((rd_T76 l0 x12_1).f1) ((rd_T76 l0 x12_1).f2) ((rd_T76 l0 x12_1).f3)) else (if ((rd_T76 l0 x12_1).f0.f1) = x258001_1 then (if ((rd_T76 l0 x12_1).f3) < x258004_1 then (impl_FindRoute.l0 k1 a1 true l0 (l0.length : Int) (wrap64 (x12_1 + 1)) ((rd_T76 l0 x12_1).f0.f0) ((rd_T76 l0 x12_1).f0.f1) ((rd_T76 l0 x12_1).f1) ((rd_T76 l0 x12_1).f2) ((rd_T76 l0 x12_1).f3)) else (impl_FindRoute.l0 k1 a1 true l0 (l0.length : Int) (wrap64 (x12_1 + 1)) x258000_1 x258001_1 x258002_1 x258003_1 x258004_1)) else (impl_FindRoute.l0 k1 a1 true l0 (l0.length : Int) (wrap64 (x12_1 + 1)) x258000_1 x258001_1 x258002_1 x258003_1 x258004_1))) = some (r1, r2, r3, r4, r5, r6) := by rw [if_pos rfl] at H; exact H
 clear H
 have H := H1
 clear H1
 by_cases c1011 : ((rd_T76 l0 x12_1).f0.f1) > x258001_1
 rw [if_pos c1011] at H
 have c1011b0 : decide (x258001_1 < ((rd_T76 l0 x12_1).f0.f1)) = true := decide_eq_true c1011
 clear c1011
 have H' := Aside0.mk H
 clear H
 have bq1_ : True := trivial
 rotate_left
 rw [if_neg c1011] at H
 have c1011b0 : decide (x258001_1 < ((rd_T76 l0 x12_1).f0.f1)) = false := decide_eq_false c1011
 clear c1011
 by_cases c1012 : ((rd_T76 l0 x12_1).f0.f1) = x258001_1
 rw [if_pos c1012] at H
 have c1012b0 : (((rd_T76 l0 x12_1).f0.f1) == x258001_1) = true := beq_iff_eq.mpr c1012
 have c1012b1 : (((rd_T76 l0 x12_1).f0.f1) != x258001_1) = false := bne_eq_false_iff_eq.mpr c1012
 clear c1012
 by_cases c1013 : ((rd_T76 l0 x12_1).f3) < x258004_1
 rw [if_pos c1013] at H
 have c1013b0 : decide (((rd_T76 l0 x12_1).f3) < x258004_1) = true := decide_eq_true c1013
 clear c1013
 have H' := Aside0.mk H
 clear H
 have bq1_ : True := trivial
 rotate_left
 rw [if_neg c1013] at H
 have c1013b0 : decide (((rd_T76 l0 x12_1).f3) < x258004_1) = false := decide_eq_false c1013
 clear c1013
 have H' := Aside0.mk H
 clear H
 have bq1_ : True := trivial
 rotate_left
 rw [if_neg c1012] at H
 have c1012b0 : (((rd_T76 l0 x12_1).f0.f1) == x258001_1) = false := beq_eq_false_iff_ne.mpr c1012
 have c1012b1 : (((rd_T76 l0 x12_1).f0.f1) != x258001_1) = true := bne_iff_ne.mpr c1012
 have H' := Aside0.mk H
 clear H
 have bq1_ : True := trivial
 rotate_left
 replace c1010 := Bool.eq_false_iff.mpr c1010
 subst c1010
 have H1 : (impl_FindRoute.l0 k1 a1 true l0 (l0.length : Int) (wrap64 (x12_1 + 1)) ((rd_T76 l0 x12_1).f0.f0) ((rd_T76 l0 x12_1).f0.f1) ((rd_T76 l0 x12_1).f1) ((rd_T76 l0 x12_1).f2) ((rd_T76 l0 x12_1).f3)) = some (r1, r2, r3, r4, r5, r6) := by rw [if_neg (show ¬ (false = true) by decide)] at H; exact H
 clear H
 have H := H1
 clear H1
 have H' := Aside0.mk H
 clear H
 have bq1_ : True := trivial
 rotate_left
 replace c1009 := Bool.eq_false_iff.mpr c1009
 subst c1009
 have H1 : (impl_FindRoute.l0 k1 a1 x7_1 l0 (l0.length : Int) (wrap64 (x12_1 + 1)) x258000_1 x258001_1 x258002_1 x258003_1 x258004_1) = some (r1, r2, r3, r4, r5, r6) := by rw [if_neg (show ¬ (false = true) by decide)] at H; exact H
 clear H
 have H := H1
 clear H1
 have H' := Aside0.mk H
 clear H
 have bq1_ : True := trivial
 rotate_left
 replace c1007 := Bool.eq_false_iff.mpr c1007
 subst c1007
 have H1 : (impl_FindRoute.l0 k1 a1 x7_1 l0 (l0.length : Int) (wrap64 (x12_1 + 1)) x258000_1 x258001_1 x258002_1 x258003_1 x258004_1) = some (r1, r2, r3, r4, r5, r6) := by rw [if_neg (show ¬ (false = true) by decide)] at H; exact H
 clear H
 have H := H1
 clear H1
 have H' := Aside0.mk H
 clear H
 rotate_left
 rw [if_neg c1005] at H
 exact absurd H (by simp)
 rw [if_neg c1004] at H
 exact absurd H (by simp)
 rw [if_neg c1003] at H
 have c1003b0 : decide (x12_1 < (l0.length : Int)) = false := decide_eq_false c1003
 clear c1003
 simp only [Option.some.injEq, Prod.mk.injEq] at H
 obtain ⟨rfl, rfl, rfl, rfl, rfl, rfl⟩ := H
 rotate_left
 iterate 7 (
 focus (
 have p258 : 0 ≤ (x12_1 : Int) := of_decide_eq_true (by first | (with_reducible assumption) | assumption)
 have q258 : x12_1 < (l0.length : Int) := of_decide_eq_true (by first | (with_reducible assumption) | assumption)
 obtain ⟨ad258, e258, hx258_0, hx258_1, hx258_2, hx258_3, hx258_4⟩ := at_T76 HR0.out x12_1 p258 q258
 cases e258
 replace hx258_0 := (HB.out.cell (World.block_lt_of_cell? w _ hx258_0)).trans hx258_0
 replace hx258_1 := (HB.out.cell (World.block_lt_of_cell? w _ hx258_1)).trans hx258_1
 replace hx258_2 := (HB.out.cell (World.block_lt_of_cell? w _ hx258_2)).trans hx258_2
 replace hx258_3 := (HB.out.cell (World.block_lt_of_cell? w _ hx258_3)).trans hx258_3
 replace hx258_4 := (HB.out.cell (World.block_lt_of_cell? w _ hx258_4)).trans hx258_4
 replace p258 := eq_true p258
 replace q258 := eq_true q258
 )
 rotate_left
 )
 rotate_right 7
 iterate 5 (
 focus (
 go_wp2_with (first | ((with_reducible refine gate_dst (N := 9) rfl ?_); refine box_event ?hg (N := 9) ?hd (cs := #[.int .i64 0, .int .i64 0, .int .i64 0, .int .i64 0, .int .i64 0]) (t := 76) ?hr ?_; (case hd => rfl); (case hg => rfl); (case hr => first | (go_simp; done) | (go_simp; rfl)); intro gb259 hg w2001 hbox hb; have n0_ := Aside0.mk (blk_below (Bh BK256) hb); have n1_ := Aside0.mk (blk_below (Bh BK257) hb); have n2_ := Aside0.mk (below_step wB hb); have n3_ := Aside0.mk (hbox); have n4_ := Aside0.mk ((by rw [hg]; exact (below_size wB) : w.heap.size ≤ gb259)); have n5_ := Aside0.mk ((by rw [hg]; exact (below_size wB) : w.heap.size ≤ gb259)); have n6_ := Aside0.mk ((by rw [hg]; exact Nat.ne_of_lt (blk_lt (Bh BK256)) : gb256 ≠ gb259)); have n7_ := Aside0.mk ((by rw [hg]; exact Nat.ne_of_gt (blk_lt (Bh BK256)) : gb259 ≠ gb256)); have n8_ := Aside0.mk ((by rw [hg]; exact Nat.ne_of_lt (blk_lt (Bh BK257)) : gb257 ≠ gb259)); have n9_ := Aside0.mk ((by rw [hg]; exact Nat.ne_of_gt (blk_lt (Bh BK257)) : gb259 ≠ gb257)); clear BK256; clear BK257; clear HB; have BK256 := n0_; have BK257 := n1_; have HB := n2_; have BK259 := n3_; have GW259 := n4_; have GE259 := n5_; have NB256_259 := n6_; have NB259_256 := n7_; have NB257_259 := n8_; have NB259_257 := n9_; clear n0_ n1_ n2_ n3_ n4_ n5_ n6_ n7_ n8_ n9_; clear hb hbox hg; have hnb2002 := NB259_256.out; have hnc2002 := NB256_259.out; have hnb2003 := NB259_257.out; have hnc2003 := NB257_259.out; obtain ⟨⟨hcz2004_0, hcz2004_1, hcz2004_2, hcz2004_3, hcz2004_4⟩, hfz2004_0, hfz2004_1, hfz2004_2, hfz2004_3, hfz2004_4⟩ := cells5 BK259.out) | ((with_reducible refine gate_store (t := 76) (p := 9) rfl ?_); refine store_event (t := 76) (p := 9) (v := ?_) (w1 := (((((w2001.setCell ⟨gb259, 0, none⟩ (.int .i64 ((rd_T76 l0 x12_1).f0.f0))).setCell ⟨gb259, 1, none⟩ (.int .i64 ((rd_T76 l0 x12_1).f0.f1))).setCell ⟨gb259, 2, none⟩ (.int .i64 ((rd_T76 l0 x12_1).f1))).setCell ⟨gb259, 3, none⟩ (.int .i64 ((rd_T76 l0 x12_1).f2))).setCell ⟨gb259, 4, none⟩ (.int .i64 ((rd_T76 l0 x12_1).f3)))) ?hg ?ho ?hn ?hr ?_; (case ho => rfl); (case hg => rfl); (case hn => rfl); (case hr => first | (go_simp; done) | (go_simp; rfl)); intro w2005 hw; have n0_ : Aside0 (w2005.heap[gb256]? = some (.cells #[.int .i64 0, .int .i64 0, .int .i64 0, .int .i64 0, .int .i64 0] 76 (0, 0))) := ⟨(by rw [hw]; exact (by (with_reducible repeat (first | refine blk_drewN ?_ _ | refine blk_drew ?_ | refine blk_alloc ?_ _)); refine blk_far ?_ NB256_259.out _; (with_reducible repeat (first | refine blk_drewN ?_ _ | refine blk_drew ?_ | refine blk_alloc ?_ _)); refine blk_far ?_ NB256_259.out _; (with_reducible repeat (first | refine blk_drewN ?_ _ | refine blk_drew ?_ | refine blk_alloc ?_ _)); refine blk_far ?_ NB256_259.out _; (with_reducible repeat (first | refine blk_drewN ?_ _ | refine blk_drew ?_ | refine blk_alloc ?_ _)); refine blk_far ?_ NB256_259.out _; (with_reducible repeat (first | refine blk_drewN ?_ _ | refine blk_drew ?_ | refine blk_alloc ?_ _)); refine blk_far ?_ NB256_259.out _; (with_reducible repeat (first | refine blk_drewN ?_ _ | refine blk_drew ?_ | refine blk_alloc ?_ _)); exact BK256.out))⟩; have n1_ : Aside0 (w2005.heap[gb257]? = some (.cells #[.int .i64 x258000_1, .int .i64 x258001_1, .int .i64 x258002_1, .int .i64 x258003_1, .int .i64 x258004_1] 76 (0, 0))) := ⟨(by rw [hw]; exact (by (with_reducible repeat (first | refine blk_drewN ?_ _ | refine blk_drew ?_ | refine blk_alloc ?_ _)); refine blk_far ?_ NB257_259.out _; (with_reducible repeat (first | refine blk_drewN ?_ _ | refine blk_drew ?_ | refine blk_alloc ?_ _)); refine blk_far ?_ NB257_259.out _; (with_reducible repeat (first | refine blk_drewN ?_ _ | refine blk_drew ?_ | refine blk_alloc ?_ _)); refine blk_far ?_ NB257_259.out _; (with_reducible repeat (first | refine blk_drewN ?_ _ | refine blk_drew ?_ | refine blk_alloc ?_ _)); refine blk_far ?_ NB257_259.out _; (with_reducible repeat (first | refine blk_drewN ?_ _ | refine blk_drew ?_ | refine blk_alloc ?_ _)); refine blk_far ?_ NB257_259.out _; (with_reducible repeat (first | refine blk_drewN ?_ _ | refine blk_drew ?_ | refine blk_alloc ?_ _)); exact BK257.out))⟩; have n2_ : Aside0 (w2005.heap[gb259]? = some (.cells #[.int .i64 ((rd_T76 l0 x12_1).f0.f0), .int .i64 ((rd_T76 l0 x12_1).f0.f1), .int .i64 ((rd_T76 l0 x12_1).f1), .int .i64 ((rd_T76 l0 x12_1).f2), .int .i64 ((rd_T76 l0 x12_1).f3)] 76 (0, 0))) := ⟨(by rw [hw]; exact (by (with_reducible repeat (first | refine blk_drewN ?_ _ | refine blk_drew ?_ | refine blk_alloc ?_ _)); refine blk_put (cs := #[.int .i64 ((rd_T76 l0 x12_1).f0.f0), .int .i64 ((rd_T76 l0 x12_1).f0.f1), .int .i64 ((rd_T76 l0 x12_1).f1), .int .i64 ((rd_T76 l0 x12_1).f2), .int .i64 0]) ?_ 4 _ rfl; (with_reducible repeat (first | refine blk_drewN ?_ _ | refine blk_drew ?_ | refine blk_alloc ?_ _)); refine blk_put (cs := #[.int .i64 ((rd_T76 l0 x12_1).f0.f0), .int .i64 ((rd_T76 l0 x12_1).f0.f1), .int .i64 ((rd_T76 l0 x12_1).f1), .int .i64 0, .int .i64 0]) ?_ 3 _ rfl; (with_reducible repeat (first | refine blk_drewN ?_ _ | refine blk_drew ?_ | refine blk_alloc ?_ _)); refine blk_put (cs := #[.int .i64 ((rd_T76 l0 x12_1).f0.f0), .int .i64 ((rd_T76 l0 x12_1).f0.f1), .int .i64 0, .int .i64 0, .int .i64 0]) ?_ 2 _ rfl; (with_reducible repeat (first | refine blk_drewN ?_ _ | refine blk_drew ?_ | refine blk_alloc ?_ _)); refine blk_put (cs := #[.int .i64 ((rd_T76 l0 x12_1).f0.f0), .int .i64 0, .int .i64 0, .int .i64 0, .int .i64 0]) ?_ 1 _ rfl; (with_reducible repeat (first | refine blk_drewN ?_ _ | refine blk_drew ?_ | refine blk_alloc ?_ _)); refine blk_put (cs := #[.int .i64 0, .int .i64 0, .int .i64 0, .int .i64 0, .int .i64 0]) ?_ 0 _ rfl; (with_reducible repeat (first | refine blk_drewN ?_ _ | refine blk_drew ?_ | refine blk_alloc ?_ _)); exact BK259.out))⟩; have n3_ : Aside0 (Below w.heap.size w w2005) := ⟨(by rw [hw]; exact wB)⟩; clear hw; clear BK256; clear BK257; clear BK259; clear HB; have BK256 := n0_; have BK257 := n1_; have BK259 := n2_; have HB := n3_; clear n0_ n1_ n2_ n3_; obtain ⟨⟨hcz2006_0, hcz2006_1, hcz2006_2, hcz2006_3, hcz2006_4⟩, hfz2006_0, hfz2006_1, hfz2006_2, hfz2006_3, hfz2006_4⟩ := cells5 BK259.out) | ((with_reducible refine gate_callee (f := 99) rfl ?_); refine goesL_ (some 17) rfl rfl Try.func99 (by kernel_rfl) rfl #[.agg #[.int .i64 ((rd_T76 l0 x12_1).f0.f0), .int .i64 ((rd_T76 l0 x12_1).f0.f1), .int .i64 ((rd_T76 l0 x12_1).f1), .int .i64 ((rd_T76 l0 x12_1).f2), .int .i64 ((rd_T76 l0 x12_1).f3)]] rfl wT ?_; (with_reducible refine (impl_okRoute.calls ((rd_T76 l0 x12_1).f0.f0) ((rd_T76 l0 x12_1).f0.f1) ((rd_T76 l0 x12_1).f1) ((rd_T76 l0 x12_1).f2) ((rd_T76 l0 x12_1).f3) true _ A1006.out).mono ?_); rintro e w2007 ⟨rfl, hb⟩; refine ⟨_, rfl, ?_⟩; have n0_ := Aside0.mk (blk_below (Bh BK256) hb); have n1_ := Aside0.mk (blk_below (Bh BK257) hb); have n2_ := Aside0.mk (blk_below (Bh BK259) hb); have n3_ := Aside0.mk (below_step wB hb); clear BK256; clear BK257; clear BK259; clear HB; have BK256 := n0_; have BK257 := n1_; have BK259 := n2_; have HB := n3_; clear n0_ n1_ n2_ n3_; (try clear hb); (try clear hb2); (try clear hk); (try clear hi); obtain ⟨⟨hcz2008_0, hcz2008_1, hcz2008_2, hcz2008_3, hcz2008_4⟩, hfz2008_0, hfz2008_1, hfz2008_2, hfz2008_3, hfz2008_4⟩ := cells5 BK259.out) | (go_at_call 100; (with_reducible refine (impl_PrefixHas.calls ((rd_T76 l0 x12_1).f0.f0) ((rd_T76 l0 x12_1).f0.f1) a1 true _ A1008.out).mono ?_); rintro e w2009 ⟨rfl, hb⟩; have n0_ := Aside0.mk (blk_below (Bh BK256) hb); have n1_ := Aside0.mk (blk_below (Bh BK257) hb); have n2_ := Aside0.mk (blk_below (Bh BK259) hb); have n3_ := Aside0.mk (below_step wB hb); clear BK256; clear BK257; clear BK259; clear HB; have BK256 := n0_; have BK257 := n1_; have BK259 := n2_; have HB := n3_; clear n0_ n1_ n2_ n3_; (try clear hb); (try clear hb2); (try clear hk); (try clear hi); obtain ⟨⟨hcz2010_0, hcz2010_1, hcz2010_2, hcz2010_3, hcz2010_4⟩, hfz2010_0, hfz2010_1, hfz2010_2, hfz2010_3, hfz2010_4⟩ := cells5 BK259.out; have hnb2011 := NB257_256.out; have hnc2011 := NB256_257.out; obtain ⟨⟨hcz2012_0, hcz2012_1, hcz2012_2, hcz2012_3, hcz2012_4⟩, hfz2012_0, hfz2012_1, hfz2012_2, hfz2012_3, hfz2012_4⟩ := cells5 BK257.out) | ((with_reducible refine gate_store (t := 76) (p := 6) rfl ?_); refine store_event (t := 76) (p := 6) (v := ?_) (w1 := (((((w2009.setCell ⟨gb257, 0, none⟩ (.int .i64 ((rd_T76 l0 x12_1).f0.f0))).setCell ⟨gb257, 1, none⟩ (.int .i64 ((rd_T76 l0 x12_1).f0.f1))).setCell ⟨gb257, 2, none⟩ (.int .i64 ((rd_T76 l0 x12_1).f1))).setCell ⟨gb257, 3, none⟩ (.int .i64 ((rd_T76 l0 x12_1).f2))).setCell ⟨gb257, 4, none⟩ (.int .i64 ((rd_T76 l0 x12_1).f3)))) ?hg ?ho ?hn ?hr ?_; (case ho => rfl); (case hg => rfl); (case hn => rfl); (case hr => first | (go_simp; done) | (go_simp; rfl)); intro w2013 hw; have n0_ : Aside0 (w2013.heap[gb256]? = some (.cells #[.int .i64 0, .int .i64 0, .int .i64 0, .int .i64 0, .int .i64 0] 76 (0, 0))) := ⟨(by rw [hw]; exact (by (with_reducible repeat (first | refine blk_drewN ?_ _ | refine blk_drew ?_ | refine blk_alloc ?_ _)); refine blk_far ?_ NB256_257.out _; (with_reducible repeat (first | refine blk_drewN ?_ _ | refine blk_drew ?_ | refine blk_alloc ?_ _)); refine blk_far ?_ NB256_257.out _; (with_reducible repeat (first | refine blk_drewN ?_ _ | refine blk_drew ?_ | refine blk_alloc ?_ _)); refine blk_far ?_ NB256_257.out _; (with_reducible repeat (first | refine blk_drewN ?_ _ | refine blk_drew ?_ | refine blk_alloc ?_ _)); refine blk_far ?_ NB256_257.out _; (with_reducible repeat (first | refine blk_drewN ?_ _ | refine blk_drew ?_ | refine blk_alloc ?_ _)); refine blk_far ?_ NB256_257.out _; (with_reducible repeat (first | refine blk_drewN ?_ _ | refine blk_drew ?_ | refine blk_alloc ?_ _)); exact BK256.out))⟩; have n1_ : Aside0 (w2013.heap[gb257]? = some (.cells #[.int .i64 ((rd_T76 l0 x12_1).f0.f0), .int .i64 ((rd_T76 l0 x12_1).f0.f1), .int .i64 ((rd_T76 l0 x12_1).f1), .int .i64 ((rd_T76 l0 x12_1).f2), .int .i64 ((rd_T76 l0 x12_1).f3)] 76 (0, 0))) := ⟨(by rw [hw]; exact (by (with_reducible repeat (first | refine blk_drewN ?_ _ | refine blk_drew ?_ | refine blk_alloc ?_ _)); refine blk_put (cs := #[.int .i64 ((rd_T76 l0 x12_1).f0.f0), .int .i64 ((rd_T76 l0 x12_1).f0.f1), .int .i64 ((rd_T76 l0 x12_1).f1), .int .i64 ((rd_T76 l0 x12_1).f2), .int .i64 x258004_1]) ?_ 4 _ rfl; (with_reducible repeat (first | refine blk_drewN ?_ _ | refine blk_drew ?_ | refine blk_alloc ?_ _)); refine blk_put (cs := #[.int .i64 ((rd_T76 l0 x12_1).f0.f0), .int .i64 ((rd_T76 l0 x12_1).f0.f1), .int .i64 ((rd_T76 l0 x12_1).f1), .int .i64 x258003_1, .int .i64 x258004_1]) ?_ 3 _ rfl; (with_reducible repeat (first | refine blk_drewN ?_ _ | refine blk_drew ?_ | refine blk_alloc ?_ _)); refine blk_put (cs := #[.int .i64 ((rd_T76 l0 x12_1).f0.f0), .int .i64 ((rd_T76 l0 x12_1).f0.f1), .int .i64 x258002_1, .int .i64 x258003_1, .int .i64 x258004_1]) ?_ 2 _ rfl; (with_reducible repeat (first | refine blk_drewN ?_ _ | refine blk_drew ?_ | refine blk_alloc ?_ _)); refine blk_put (cs := #[.int .i64 ((rd_T76 l0 x12_1).f0.f0), .int .i64 x258001_1, .int .i64 x258002_1, .int .i64 x258003_1, .int .i64 x258004_1]) ?_ 1 _ rfl; (with_reducible repeat (first | refine blk_drewN ?_ _ | refine blk_drew ?_ | refine blk_alloc ?_ _)); refine blk_put (cs := #[.int .i64 x258000_1, .int .i64 x258001_1, .int .i64 x258002_1, .int .i64 x258003_1, .int .i64 x258004_1]) ?_ 0 _ rfl; (with_reducible repeat (first | refine blk_drewN ?_ _ | refine blk_drew ?_ | refine blk_alloc ?_ _)); exact BK257.out))⟩; have n2_ : Aside0 (w2013.heap[gb259]? = some (.cells #[.int .i64 ((rd_T76 l0 x12_1).f0.f0), .int .i64 ((rd_T76 l0 x12_1).f0.f1), .int .i64 ((rd_T76 l0 x12_1).f1), .int .i64 ((rd_T76 l0 x12_1).f2), .int .i64 ((rd_T76 l0 x12_1).f3)] 76 (0, 0))) := ⟨(by rw [hw]; exact (by (with_reducible repeat (first | refine blk_drewN ?_ _ | refine blk_drew ?_ | refine blk_alloc ?_ _)); refine blk_far ?_ NB259_257.out _; (with_reducible repeat (first | refine blk_drewN ?_ _ | refine blk_drew ?_ | refine blk_alloc ?_ _)); refine blk_far ?_ NB259_257.out _; (with_reducible repeat (first | refine blk_drewN ?_ _ | refine blk_drew ?_ | refine blk_alloc ?_ _)); refine blk_far ?_ NB259_257.out _; (with_reducible repeat (first | refine blk_drewN ?_ _ | refine blk_drew ?_ | refine blk_alloc ?_ _)); refine blk_far ?_ NB259_257.out _; (with_reducible repeat (first | refine blk_drewN ?_ _ | refine blk_drew ?_ | refine blk_alloc ?_ _)); refine blk_far ?_ NB259_257.out _; (with_reducible repeat (first | refine blk_drewN ?_ _ | refine blk_drew ?_ | refine blk_alloc ?_ _)); exact BK259.out))⟩; have n3_ : Aside0 (Below w.heap.size w w2013) := ⟨(by rw [hw]; exact wB)⟩; clear hw; clear BK256; clear BK257; clear BK259; clear HB; have BK256 := n0_; have BK257 := n1_; have BK259 := n2_; have HB := n3_; clear n0_ n1_ n2_ n3_))
 all_goals (try (rename_i h_; exfalso; cases h_; done))
 all_goals (try (rename_i h_ h2_; exfalso; cases h_; done))
 go_roundg k1
 case measure => have := HK1.out; omega
 )
 rotate_left
 )
 rotate_right 5
 iterate 2 (
 focus (
 case rel => exact ⟨(true), (wrap64 (x12_1 + 1)), ((rd_T76 l0 x12_1).f0.f0), ((rd_T76 l0 x12_1).f0.f1), ((rd_T76 l0 x12_1).f1), ((rd_T76 l0 x12_1).f2), ((rd_T76 l0 x12_1).f3), (by first | rfl | (simp; done) | (simp [*]; done)), (by first | rfl | (simp; done) | (simp [*]; done)), H', ⟨by have := HK1.out; omega⟩, ⟨Bh BK256⟩, ⟨Bh BK257⟩, ⟨wB⟩⟩
 )
 )
 iterate 2 (
 focus (
 case rel => exact ⟨(true), (wrap64 (x12_1 + 1)), (x258000_1), (x258001_1), (x258002_1), (x258003_1), (x258004_1), (by first | rfl | (simp; done) | (simp [*]; done)), (by first | rfl | (simp; done) | (simp [*]; done)), H', ⟨by have := HK1.out; omega⟩, ⟨Bh BK256⟩, ⟨Bh BK257⟩, ⟨wB⟩⟩
 )
 )
 {
 case rel => exact ⟨(true), (wrap64 (x12_1 + 1)), ((rd_T76 l0 x12_1).f0.f0), ((rd_T76 l0 x12_1).f0.f1), ((rd_T76 l0 x12_1).f1), ((rd_T76 l0 x12_1).f2), ((rd_T76 l0 x12_1).f3), (by first | rfl | (simp; done) | (simp [*]; done)), (by first | rfl | (simp; done) | (simp [*]; done)), H', ⟨by have := HK1.out; omega⟩, ⟨Bh BK256⟩, ⟨Bh BK257⟩, ⟨wB⟩⟩
 }
 {
 go_wp2_with (first | ((with_reducible refine gate_dst (N := 9) rfl ?_); refine box_event ?hg (N := 9) ?hd (cs := #[.int .i64 0, .int .i64 0, .int .i64 0, .int .i64 0, .int .i64 0]) (t := 76) ?hr ?_; (case hd => rfl); (case hg => rfl); (case hr => first | (go_simp; done) | (go_simp; rfl)); intro gb259 hg w2001 hbox hb; have n0_ := Aside0.mk (blk_below (Bh BK256) hb); have n1_ := Aside0.mk (blk_below (Bh BK257) hb); have n2_ := Aside0.mk (below_step wB hb); have n3_ := Aside0.mk (hbox); have n4_ := Aside0.mk ((by rw [hg]; exact (below_size wB) : w.heap.size ≤ gb259)); have n5_ := Aside0.mk ((by rw [hg]; exact (below_size wB) : w.heap.size ≤ gb259)); have n6_ := Aside0.mk ((by rw [hg]; exact Nat.ne_of_lt (blk_lt (Bh BK256)) : gb256 ≠ gb259)); have n7_ := Aside0.mk ((by rw [hg]; exact Nat.ne_of_gt (blk_lt (Bh BK256)) : gb259 ≠ gb256)); have n8_ := Aside0.mk ((by rw [hg]; exact Nat.ne_of_lt (blk_lt (Bh BK257)) : gb257 ≠ gb259)); have n9_ := Aside0.mk ((by rw [hg]; exact Nat.ne_of_gt (blk_lt (Bh BK257)) : gb259 ≠ gb257)); clear BK256; clear BK257; clear HB; have BK256 := n0_; have BK257 := n1_; have HB := n2_; have BK259 := n3_; have GW259 := n4_; have GE259 := n5_; have NB256_259 := n6_; have NB259_256 := n7_; have NB257_259 := n8_; have NB259_257 := n9_; clear n0_ n1_ n2_ n3_ n4_ n5_ n6_ n7_ n8_ n9_; clear hb hbox hg; have hnb2002 := NB259_256.out; have hnc2002 := NB256_259.out; have hnb2003 := NB259_257.out; have hnc2003 := NB257_259.out; obtain ⟨⟨hcz2004_0, hcz2004_1, hcz2004_2, hcz2004_3, hcz2004_4⟩, hfz2004_0, hfz2004_1, hfz2004_2, hfz2004_3, hfz2004_4⟩ := cells5 BK259.out) | ((with_reducible refine gate_store (t := 76) (p := 9) rfl ?_); refine store_event (t := 76) (p := 9) (v := ?_) (w1 := (((((w2001.setCell ⟨gb259, 0, none⟩ (.int .i64 ((rd_T76 l0 x12_1).f0.f0))).setCell ⟨gb259, 1, none⟩ (.int .i64 ((rd_T76 l0 x12_1).f0.f1))).setCell ⟨gb259, 2, none⟩ (.int .i64 ((rd_T76 l0 x12_1).f1))).setCell ⟨gb259, 3, none⟩ (.int .i64 ((rd_T76 l0 x12_1).f2))).setCell ⟨gb259, 4, none⟩ (.int .i64 ((rd_T76 l0 x12_1).f3)))) ?hg ?ho ?hn ?hr ?_; (case ho => rfl); (case hg => rfl); (case hn => rfl); (case hr => first | (go_simp; done) | (go_simp; rfl)); intro w2005 hw; have n0_ : Aside0 (w2005.heap[gb256]? = some (.cells #[.int .i64 0, .int .i64 0, .int .i64 0, .int .i64 0, .int .i64 0] 76 (0, 0))) := ⟨(by rw [hw]; exact (by (with_reducible repeat (first | refine blk_drewN ?_ _ | refine blk_drew ?_ | refine blk_alloc ?_ _)); refine blk_far ?_ NB256_259.out _; (with_reducible repeat (first | refine blk_drewN ?_ _ | refine blk_drew ?_ | refine blk_alloc ?_ _)); refine blk_far ?_ NB256_259.out _; (with_reducible repeat (first | refine blk_drewN ?_ _ | refine blk_drew ?_ | refine blk_alloc ?_ _)); refine blk_far ?_ NB256_259.out _; (with_reducible repeat (first | refine blk_drewN ?_ _ | refine blk_drew ?_ | refine blk_alloc ?_ _)); refine blk_far ?_ NB256_259.out _; (with_reducible repeat (first | refine blk_drewN ?_ _ | refine blk_drew ?_ | refine blk_alloc ?_ _)); refine blk_far ?_ NB256_259.out _; (with_reducible repeat (first | refine blk_drewN ?_ _ | refine blk_drew ?_ | refine blk_alloc ?_ _)); exact BK256.out))⟩; have n1_ : Aside0 (w2005.heap[gb257]? = some (.cells #[.int .i64 x258000_1, .int .i64 x258001_1, .int .i64 x258002_1, .int .i64 x258003_1, .int .i64 x258004_1] 76 (0, 0))) := ⟨(by rw [hw]; exact (by (with_reducible repeat (first | refine blk_drewN ?_ _ | refine blk_drew ?_ | refine blk_alloc ?_ _)); refine blk_far ?_ NB257_259.out _; (with_reducible repeat (first | refine blk_drewN ?_ _ | refine blk_drew ?_ | refine blk_alloc ?_ _)); refine blk_far ?_ NB257_259.out _; (with_reducible repeat (first | refine blk_drewN ?_ _ | refine blk_drew ?_ | refine blk_alloc ?_ _)); refine blk_far ?_ NB257_259.out _; (with_reducible repeat (first | refine blk_drewN ?_ _ | refine blk_drew ?_ | refine blk_alloc ?_ _)); refine blk_far ?_ NB257_259.out _; (with_reducible repeat (first | refine blk_drewN ?_ _ | refine blk_drew ?_ | refine blk_alloc ?_ _)); refine blk_far ?_ NB257_259.out _; (with_reducible repeat (first | refine blk_drewN ?_ _ | refine blk_drew ?_ | refine blk_alloc ?_ _)); exact BK257.out))⟩; have n2_ : Aside0 (w2005.heap[gb259]? = some (.cells #[.int .i64 ((rd_T76 l0 x12_1).f0.f0), .int .i64 ((rd_T76 l0 x12_1).f0.f1), .int .i64 ((rd_T76 l0 x12_1).f1), .int .i64 ((rd_T76 l0 x12_1).f2), .int .i64 ((rd_T76 l0 x12_1).f3)] 76 (0, 0))) := ⟨(by rw [hw]; exact (by (with_reducible repeat (first | refine blk_drewN ?_ _ | refine blk_drew ?_ | refine blk_alloc ?_ _)); refine blk_put (cs := #[.int .i64 ((rd_T76 l0 x12_1).f0.f0), .int .i64 ((rd_T76 l0 x12_1).f0.f1), .int .i64 ((rd_T76 l0 x12_1).f1), .int .i64 ((rd_T76 l0 x12_1).f2), .int .i64 0]) ?_ 4 _ rfl; (with_reducible repeat (first | refine blk_drewN ?_ _ | refine blk_drew ?_ | refine blk_alloc ?_ _)); refine blk_put (cs := #[.int .i64 ((rd_T76 l0 x12_1).f0.f0), .int .i64 ((rd_T76 l0 x12_1).f0.f1), .int .i64 ((rd_T76 l0 x12_1).f1), .int .i64 0, .int .i64 0]) ?_ 3 _ rfl; (with_reducible repeat (first | refine blk_drewN ?_ _ | refine blk_drew ?_ | refine blk_alloc ?_ _)); refine blk_put (cs := #[.int .i64 ((rd_T76 l0 x12_1).f0.f0), .int .i64 ((rd_T76 l0 x12_1).f0.f1), .int .i64 0, .int .i64 0, .int .i64 0]) ?_ 2 _ rfl; (with_reducible repeat (first | refine blk_drewN ?_ _ | refine blk_drew ?_ | refine blk_alloc ?_ _)); refine blk_put (cs := #[.int .i64 ((rd_T76 l0 x12_1).f0.f0), .int .i64 0, .int .i64 0, .int .i64 0, .int .i64 0]) ?_ 1 _ rfl; (with_reducible repeat (first | refine blk_drewN ?_ _ | refine blk_drew ?_ | refine blk_alloc ?_ _)); refine blk_put (cs := #[.int .i64 0, .int .i64 0, .int .i64 0, .int .i64 0, .int .i64 0]) ?_ 0 _ rfl; (with_reducible repeat (first | refine blk_drewN ?_ _ | refine blk_drew ?_ | refine blk_alloc ?_ _)); exact BK259.out))⟩; have n3_ : Aside0 (Below w.heap.size w w2005) := ⟨(by rw [hw]; exact wB)⟩; clear hw; clear BK256; clear BK257; clear BK259; clear HB; have BK256 := n0_; have BK257 := n1_; have BK259 := n2_; have HB := n3_; clear n0_ n1_ n2_ n3_; obtain ⟨⟨hcz2006_0, hcz2006_1, hcz2006_2, hcz2006_3, hcz2006_4⟩, hfz2006_0, hfz2006_1, hfz2006_2, hfz2006_3, hfz2006_4⟩ := cells5 BK259.out) | ((with_reducible refine gate_callee (f := 99) rfl ?_); refine goesL_ (some 17) rfl rfl Try.func99 (by kernel_rfl) rfl #[.agg #[.int .i64 ((rd_T76 l0 x12_1).f0.f0), .int .i64 ((rd_T76 l0 x12_1).f0.f1), .int .i64 ((rd_T76 l0 x12_1).f1), .int .i64 ((rd_T76 l0 x12_1).f2), .int .i64 ((rd_T76 l0 x12_1).f3)]] rfl wT ?_; (with_reducible refine (impl_okRoute.calls ((rd_T76 l0 x12_1).f0.f0) ((rd_T76 l0 x12_1).f0.f1) ((rd_T76 l0 x12_1).f1) ((rd_T76 l0 x12_1).f2) ((rd_T76 l0 x12_1).f3) true _ A1006.out).mono ?_); rintro e w2007 ⟨rfl, hb⟩; refine ⟨_, rfl, ?_⟩; have n0_ := Aside0.mk (blk_below (Bh BK256) hb); have n1_ := Aside0.mk (blk_below (Bh BK257) hb); have n2_ := Aside0.mk (blk_below (Bh BK259) hb); have n3_ := Aside0.mk (below_step wB hb); clear BK256; clear BK257; clear BK259; clear HB; have BK256 := n0_; have BK257 := n1_; have BK259 := n2_; have HB := n3_; clear n0_ n1_ n2_ n3_; (try clear hb); (try clear hb2); (try clear hk); (try clear hi); obtain ⟨⟨hcz2008_0, hcz2008_1, hcz2008_2, hcz2008_3, hcz2008_4⟩, hfz2008_0, hfz2008_1, hfz2008_2, hfz2008_3, hfz2008_4⟩ := cells5 BK259.out) | (go_at_call 100; (with_reducible refine (impl_PrefixHas.calls ((rd_T76 l0 x12_1).f0.f0) ((rd_T76 l0 x12_1).f0.f1) a1 false _ A1008.out).mono ?_); rintro e w2009 ⟨rfl, hb⟩; have n0_ := Aside0.mk (blk_below (Bh BK256) hb); have n1_ := Aside0.mk (blk_below (Bh BK257) hb); have n2_ := Aside0.mk (blk_below (Bh BK259) hb); have n3_ := Aside0.mk (below_step wB hb); clear BK256; clear BK257; clear BK259; clear HB; have BK256 := n0_; have BK257 := n1_; have BK259 := n2_; have HB := n3_; clear n0_ n1_ n2_ n3_; (try clear hb); (try clear hb2); (try clear hk); (try clear hi)))
 all_goals (try (rename_i h_; exfalso; cases h_; done))
 all_goals (try (rename_i h_ h2_; exfalso; cases h_; done))
 go_roundg k1
 case measure => have := HK1.out; omega
 case rel => exact ⟨(x7_1), (wrap64 (x12_1 + 1)), (x258000_1), (x258001_1), (x258002_1), (x258003_1), (x258004_1), (by first | rfl | (simp; done) | (simp [*]; done)), (by first | rfl | (simp; done) | (simp [*]; done)), H', ⟨by have := HK1.out; omega⟩, ⟨Bh BK256⟩, ⟨Bh BK257⟩, ⟨wB⟩⟩
 }
 {
 go_wp2_with (first | ((with_reducible refine gate_dst (N := 9) rfl ?_); refine box_event ?hg (N := 9) ?hd (cs := #[.int .i64 0, .int .i64 0, .int .i64 0, .int .i64 0, .int .i64 0]) (t := 76) ?hr ?_; (case hd => rfl); (case hg => rfl); (case hr => first | (go_simp; done) | (go_simp; rfl)); intro gb259 hg w2001 hbox hb; have n0_ := Aside0.mk (blk_below (Bh BK256) hb); have n1_ := Aside0.mk (blk_below (Bh BK257) hb); have n2_ := Aside0.mk (below_step wB hb); have n3_ := Aside0.mk (hbox); have n4_ := Aside0.mk ((by rw [hg]; exact (below_size wB) : w.heap.size ≤ gb259)); have n5_ := Aside0.mk ((by rw [hg]; exact (below_size wB) : w.heap.size ≤ gb259)); have n6_ := Aside0.mk ((by rw [hg]; exact Nat.ne_of_lt (blk_lt (Bh BK256)) : gb256 ≠ gb259)); have n7_ := Aside0.mk ((by rw [hg]; exact Nat.ne_of_gt (blk_lt (Bh BK256)) : gb259 ≠ gb256)); have n8_ := Aside0.mk ((by rw [hg]; exact Nat.ne_of_lt (blk_lt (Bh BK257)) : gb257 ≠ gb259)); have n9_ := Aside0.mk ((by rw [hg]; exact Nat.ne_of_gt (blk_lt (Bh BK257)) : gb259 ≠ gb257)); clear BK256; clear BK257; clear HB; have BK256 := n0_; have BK257 := n1_; have HB := n2_; have BK259 := n3_; have GW259 := n4_; have GE259 := n5_; have NB256_259 := n6_; have NB259_256 := n7_; have NB257_259 := n8_; have NB259_257 := n9_; clear n0_ n1_ n2_ n3_ n4_ n5_ n6_ n7_ n8_ n9_; clear hb hbox hg; have hnb2002 := NB259_256.out; have hnc2002 := NB256_259.out; have hnb2003 := NB259_257.out; have hnc2003 := NB257_259.out; obtain ⟨⟨hcz2004_0, hcz2004_1, hcz2004_2, hcz2004_3, hcz2004_4⟩, hfz2004_0, hfz2004_1, hfz2004_2, hfz2004_3, hfz2004_4⟩ := cells5 BK259.out) | ((with_reducible refine gate_store (t := 76) (p := 9) rfl ?_); refine store_event (t := 76) (p := 9) (v := ?_) (w1 := (((((w2001.setCell ⟨gb259, 0, none⟩ (.int .i64 ((rd_T76 l0 x12_1).f0.f0))).setCell ⟨gb259, 1, none⟩ (.int .i64 ((rd_T76 l0 x12_1).f0.f1))).setCell ⟨gb259, 2, none⟩ (.int .i64 ((rd_T76 l0 x12_1).f1))).setCell ⟨gb259, 3, none⟩ (.int .i64 ((rd_T76 l0 x12_1).f2))).setCell ⟨gb259, 4, none⟩ (.int .i64 ((rd_T76 l0 x12_1).f3)))) ?hg ?ho ?hn ?hr ?_; (case ho => rfl); (case hg => rfl); (case hn => rfl); (case hr => first | (go_simp; done) | (go_simp; rfl)); intro w2005 hw; have n0_ : Aside0 (w2005.heap[gb256]? = some (.cells #[.int .i64 0, .int .i64 0, .int .i64 0, .int .i64 0, .int .i64 0] 76 (0, 0))) := ⟨(by rw [hw]; exact (by (with_reducible repeat (first | refine blk_drewN ?_ _ | refine blk_drew ?_ | refine blk_alloc ?_ _)); refine blk_far ?_ NB256_259.out _; (with_reducible repeat (first | refine blk_drewN ?_ _ | refine blk_drew ?_ | refine blk_alloc ?_ _)); refine blk_far ?_ NB256_259.out _; (with_reducible repeat (first | refine blk_drewN ?_ _ | refine blk_drew ?_ | refine blk_alloc ?_ _)); refine blk_far ?_ NB256_259.out _; (with_reducible repeat (first | refine blk_drewN ?_ _ | refine blk_drew ?_ | refine blk_alloc ?_ _)); refine blk_far ?_ NB256_259.out _; (with_reducible repeat (first | refine blk_drewN ?_ _ | refine blk_drew ?_ | refine blk_alloc ?_ _)); refine blk_far ?_ NB256_259.out _; (with_reducible repeat (first | refine blk_drewN ?_ _ | refine blk_drew ?_ | refine blk_alloc ?_ _)); exact BK256.out))⟩; have n1_ : Aside0 (w2005.heap[gb257]? = some (.cells #[.int .i64 x258000_1, .int .i64 x258001_1, .int .i64 x258002_1, .int .i64 x258003_1, .int .i64 x258004_1] 76 (0, 0))) := ⟨(by rw [hw]; exact (by (with_reducible repeat (first | refine blk_drewN ?_ _ | refine blk_drew ?_ | refine blk_alloc ?_ _)); refine blk_far ?_ NB257_259.out _; (with_reducible repeat (first | refine blk_drewN ?_ _ | refine blk_drew ?_ | refine blk_alloc ?_ _)); refine blk_far ?_ NB257_259.out _; (with_reducible repeat (first | refine blk_drewN ?_ _ | refine blk_drew ?_ | refine blk_alloc ?_ _)); refine blk_far ?_ NB257_259.out _; (with_reducible repeat (first | refine blk_drewN ?_ _ | refine blk_drew ?_ | refine blk_alloc ?_ _)); refine blk_far ?_ NB257_259.out _; (with_reducible repeat (first | refine blk_drewN ?_ _ | refine blk_drew ?_ | refine blk_alloc ?_ _)); refine blk_far ?_ NB257_259.out _; (with_reducible repeat (first | refine blk_drewN ?_ _ | refine blk_drew ?_ | refine blk_alloc ?_ _)); exact BK257.out))⟩; have n2_ : Aside0 (w2005.heap[gb259]? = some (.cells #[.int .i64 ((rd_T76 l0 x12_1).f0.f0), .int .i64 ((rd_T76 l0 x12_1).f0.f1), .int .i64 ((rd_T76 l0 x12_1).f1), .int .i64 ((rd_T76 l0 x12_1).f2), .int .i64 ((rd_T76 l0 x12_1).f3)] 76 (0, 0))) := ⟨(by rw [hw]; exact (by (with_reducible repeat (first | refine blk_drewN ?_ _ | refine blk_drew ?_ | refine blk_alloc ?_ _)); refine blk_put (cs := #[.int .i64 ((rd_T76 l0 x12_1).f0.f0), .int .i64 ((rd_T76 l0 x12_1).f0.f1), .int .i64 ((rd_T76 l0 x12_1).f1), .int .i64 ((rd_T76 l0 x12_1).f2), .int .i64 0]) ?_ 4 _ rfl; (with_reducible repeat (first | refine blk_drewN ?_ _ | refine blk_drew ?_ | refine blk_alloc ?_ _)); refine blk_put (cs := #[.int .i64 ((rd_T76 l0 x12_1).f0.f0), .int .i64 ((rd_T76 l0 x12_1).f0.f1), .int .i64 ((rd_T76 l0 x12_1).f1), .int .i64 0, .int .i64 0]) ?_ 3 _ rfl; (with_reducible repeat (first | refine blk_drewN ?_ _ | refine blk_drew ?_ | refine blk_alloc ?_ _)); refine blk_put (cs := #[.int .i64 ((rd_T76 l0 x12_1).f0.f0), .int .i64 ((rd_T76 l0 x12_1).f0.f1), .int .i64 0, .int .i64 0, .int .i64 0]) ?_ 2 _ rfl; (with_reducible repeat (first | refine blk_drewN ?_ _ | refine blk_drew ?_ | refine blk_alloc ?_ _)); refine blk_put (cs := #[.int .i64 ((rd_T76 l0 x12_1).f0.f0), .int .i64 0, .int .i64 0, .int .i64 0, .int .i64 0]) ?_ 1 _ rfl; (with_reducible repeat (first | refine blk_drewN ?_ _ | refine blk_drew ?_ | refine blk_alloc ?_ _)); refine blk_put (cs := #[.int .i64 0, .int .i64 0, .int .i64 0, .int .i64 0, .int .i64 0]) ?_ 0 _ rfl; (with_reducible repeat (first | refine blk_drewN ?_ _ | refine blk_drew ?_ | refine blk_alloc ?_ _)); exact BK259.out))⟩; have n3_ : Aside0 (Below w.heap.size w w2005) := ⟨(by rw [hw]; exact wB)⟩; clear hw; clear BK256; clear BK257; clear BK259; clear HB; have BK256 := n0_; have BK257 := n1_; have BK259 := n2_; have HB := n3_; clear n0_ n1_ n2_ n3_; obtain ⟨⟨hcz2006_0, hcz2006_1, hcz2006_2, hcz2006_3, hcz2006_4⟩, hfz2006_0, hfz2006_1, hfz2006_2, hfz2006_3, hfz2006_4⟩ := cells5 BK259.out) | ((with_reducible refine gate_callee (f := 99) rfl ?_); refine goesL_ (some 17) rfl rfl Try.func99 (by kernel_rfl) rfl #[.agg #[.int .i64 ((rd_T76 l0 x12_1).f0.f0), .int .i64 ((rd_T76 l0 x12_1).f0.f1), .int .i64 ((rd_T76 l0 x12_1).f1), .int .i64 ((rd_T76 l0 x12_1).f2), .int .i64 ((rd_T76 l0 x12_1).f3)]] rfl wT ?_; (with_reducible refine (impl_okRoute.calls ((rd_T76 l0 x12_1).f0.f0) ((rd_T76 l0 x12_1).f0.f1) ((rd_T76 l0 x12_1).f1) ((rd_T76 l0 x12_1).f2) ((rd_T76 l0 x12_1).f3) false _ A1006.out).mono ?_); rintro e w2007 ⟨rfl, hb⟩; refine ⟨_, rfl, ?_⟩; have n0_ := Aside0.mk (blk_below (Bh BK256) hb); have n1_ := Aside0.mk (blk_below (Bh BK257) hb); have n2_ := Aside0.mk (blk_below (Bh BK259) hb); have n3_ := Aside0.mk (below_step wB hb); clear BK256; clear BK257; clear BK259; clear HB; have BK256 := n0_; have BK257 := n1_; have BK259 := n2_; have HB := n3_; clear n0_ n1_ n2_ n3_; (try clear hb); (try clear hb2); (try clear hk); (try clear hi)))
 all_goals (try (rename_i h_; exfalso; cases h_; done))
 all_goals (try (rename_i h_ h2_; exfalso; cases h_; done))
 go_roundg k1
 case measure => have := HK1.out; omega
 case rel => exact ⟨(x7_1), (wrap64 (x12_1 + 1)), (x258000_1), (x258001_1), (x258002_1), (x258003_1), (x258004_1), (by first | rfl | (simp; done) | (simp [*]; done)), (by first | rfl | (simp; done) | (simp [*]; done)), H', ⟨by have := HK1.out; omega⟩, ⟨Bh BK256⟩, ⟨Bh BK257⟩, ⟨wB⟩⟩
 }
 {
 have hnb2001 := NB257_256.out
 have hnc2001 := NB256_257.out
 obtain ⟨⟨hcz2002_0, hcz2002_1, hcz2002_2, hcz2002_3, hcz2002_4⟩, hfz2002_0, hfz2002_1, hfz2002_2, hfz2002_3, hfz2002_4⟩ := cells5 BK257.out
 obtain ⟨⟨hcz2003_0, hcz2003_1, hcz2003_2, hcz2003_3, hcz2003_4⟩, hfz2003_0, hfz2003_1, hfz2003_2, hfz2003_3, hfz2003_4⟩ := cells5 BK256.out
 go_wp2_with (first | ((with_reducible refine gate_store (t := 76) (p := 4) rfl ?_); refine store_event (t := 76) (p := 4) (v := ?_) (w1 := (((((wr.setCell ⟨gb256, 0, none⟩ (.int .i64 x258000_1)).setCell ⟨gb256, 1, none⟩ (.int .i64 x258001_1)).setCell ⟨gb256, 2, none⟩ (.int .i64 x258002_1)).setCell ⟨gb256, 3, none⟩ (.int .i64 x258003_1)).setCell ⟨gb256, 4, none⟩ (.int .i64 x258004_1))) ?hg ?ho ?hn ?hr ?_; (case ho => rfl); (case hg => rfl); (case hn => rfl); (case hr => first | (go_simp; done) | (go_simp; rfl)); intro w2004 hw; have n0_ : Aside0 (w2004.heap[gb256]? = some (.cells #[.int .i64 x258000_1, .int .i64 x258001_1, .int .i64 x258002_1, .int .i64 x258003_1, .int .i64 x258004_1] 76 (0, 0))) := ⟨(by rw [hw]; exact (by (with_reducible repeat (first | refine blk_drewN ?_ _ | refine blk_drew ?_ | refine blk_alloc ?_ _)); refine blk_put (cs := #[.int .i64 x258000_1, .int .i64 x258001_1, .int .i64 x258002_1, .int .i64 x258003_1, .int .i64 0]) ?_ 4 _ rfl; (with_reducible repeat (first | refine blk_drewN ?_ _ | refine blk_drew ?_ | refine blk_alloc ?_ _)); refine blk_put (cs := #[.int .i64 x258000_1, .int .i64 x258001_1, .int .i64 x258002_1, .int .i64 0, .int .i64 0]) ?_ 3 _ rfl; (with_reducible repeat (first | refine blk_drewN ?_ _ | refine blk_drew ?_ | refine blk_alloc ?_ _)); refine blk_put (cs := #[.int .i64 x258000_1, .int .i64 x258001_1, .int .i64 0, .int .i64 0, .int .i64 0]) ?_ 2 _ rfl; (with_reducible repeat (first | refine blk_drewN ?_ _ | refine blk_drew ?_ | refine blk_alloc ?_ _)); refine blk_put (cs := #[.int .i64 x258000_1, .int .i64 0, .int .i64 0, .int .i64 0, .int .i64 0]) ?_ 1 _ rfl; (with_reducible repeat (first | refine blk_drewN ?_ _ | refine blk_drew ?_ | refine blk_alloc ?_ _)); refine blk_put (cs := #[.int .i64 0, .int .i64 0, .int .i64 0, .int .i64 0, .int .i64 0]) ?_ 0 _ rfl; (with_reducible repeat (first | refine blk_drewN ?_ _ | refine blk_drew ?_ | refine blk_alloc ?_ _)); exact BK256.out))⟩; have n1_ : Aside0 (w2004.heap[gb257]? = some (.cells #[.int .i64 x258000_1, .int .i64 x258001_1, .int .i64 x258002_1, .int .i64 x258003_1, .int .i64 x258004_1] 76 (0, 0))) := ⟨(by rw [hw]; exact (by (with_reducible repeat (first | refine blk_drewN ?_ _ | refine blk_drew ?_ | refine blk_alloc ?_ _)); refine blk_far ?_ NB257_256.out _; (with_reducible repeat (first | refine blk_drewN ?_ _ | refine blk_drew ?_ | refine blk_alloc ?_ _)); refine blk_far ?_ NB257_256.out _; (with_reducible repeat (first | refine blk_drewN ?_ _ | refine blk_drew ?_ | refine blk_alloc ?_ _)); refine blk_far ?_ NB257_256.out _; (with_reducible repeat (first | refine blk_drewN ?_ _ | refine blk_drew ?_ | refine blk_alloc ?_ _)); refine blk_far ?_ NB257_256.out _; (with_reducible repeat (first | refine blk_drewN ?_ _ | refine blk_drew ?_ | refine blk_alloc ?_ _)); refine blk_far ?_ NB257_256.out _; (with_reducible repeat (first | refine blk_drewN ?_ _ | refine blk_drew ?_ | refine blk_alloc ?_ _)); exact BK257.out))⟩; have n2_ : Aside0 (Below w.heap.size w w2004) := ⟨(by rw [hw]; exact wB)⟩; clear hw; clear BK256; clear BK257; clear HB; have BK256 := n0_; have BK257 := n1_; have HB := n2_; clear n0_ n1_ n2_))
 all_goals (try (rename_i h_; exfalso; cases h_; done))
 all_goals (try (rename_i h_ h2_; exfalso; cases h_; done))
 refine bodyPost_ret (results_ct rfl _ _ gb256 76 #[.int .i64 x258000_1, .int .i64 x258001_1, .int .i64 x258002_1, .int .i64 x258003_1, .int .i64 x258004_1] (0, 0) _ rfl (Bh BK256) Try.underlying76 rfl (by kernel_rfl)) rfl ?_
 exact ⟨by first | rfl | (simp [errW_none, errW_some] <;> rfl) | (simp [*, errW_none, errW_some] <;> rfl), wB⟩
 }
 }
 )

end Go.Proofs.Ytkfbcmbemihbnaa.PFnLongest
