-- Written for this claim by a program of this session (wip/mkprint.py: the print, turned at a few places). Not trusted: Lean checks it.
import Derived.Test.YtnnplkhjmdbmbaaDoorPFnAddrTextx0
import Derived.Test.YtnnplkhjmdbmbaaDoorPFnAddrTextx4
namespace Go.Proofs.YtnnplkhjmdbmbaaDoor.PFnAddrText
open Go.RowKit Go.Proofs.YtnnplkhjmdbmbaaDoorW.PrintWords Go.Proofs.YtnnplkhjmdbmbaaDoorW.PrintLast Go.Proofs.YtnnplkhjmdbmbaaDoorW.PrintMore
attribute [local go_sem] max2_int min2_int max_two min_two max_three min_three max_four min_four   -- for this text's walks alone
set_option linter.unusedVariables false
set_option linter.unusedSimpArgs false

/-! ### spec_l02Prefix: function 41 -/
def spec_l02Prefix.f (k : Nat) (s0_0 : List Int) (s0_1 : Int) (s0_2 : Int) : Option (Int × Int × Int × Int) := (spec_l02Host.f s0_0 s0_1 s0_2).bind fun bt178 => ((spec_l01Next.f s0_0 bt178.2.1 bt178.2.2 33).bind fun bt181 => ((spec_l01Next.f s0_0 bt181.2.1 bt181.2.2 2).bind fun bt185 => (if bt185.1 = 0 then ((spec_l01Next.f s0_0 bt185.2.1 bt185.2.2 11).bind fun bt188 => ((spec_l02Size.f k (wrap64 (22 + bt188.1))).bind fun t191 => (if t191 = 0 then (none) else ((spec_l02Size.f k (wrap64 (22 + bt188.1))).bind fun t192 => (some (wrap64 ((wrap64 (Int.tdiv bt178.1 t191)) * t192), wrap64 (22 + bt188.1), bt188.2.1, bt188.2.2)))))) else ((spec_l02Size.f k bt181.1).bind fun t193 => (if t193 = 0 then (none) else ((spec_l02Size.f k bt181.1).bind fun t194 => (some (wrap64 ((wrap64 (Int.tdiv bt178.1 t193)) * t194), bt181.1, bt185.2.1, bt185.2.2))))))))
theorem spec_l02Prefix.mono : ∀ a0 a1 a2 k, LeO (spec_l02Prefix.f k a0 a1 a2) (spec_l02Prefix.f (k + 1) a0 a1 a2) := by
 intro a0 a1 a2 k
 unfold spec_l02Prefix.f
 repeat' first
     | (with_reducible exact spec_l02Size.mono _ _)
     | (with_reducible exact LeO.refl _)
     | (with_reducible exact LeO.none _)
     | (with_reducible refine LeO.ite ?_ ?_)
     | (with_reducible refine LeO.bind ?_ (fun _ => ?_))
     | exact spec_l02Size.mono _ _
     | exact LeO.none _
     | refine LeO.ite ?_ ?_
     | refine LeO.bind ?_ (fun _ => ?_)
def spec_l02Prefix.T4 : Bool × List (List Nat × List Nat) := (true, [([], []), ([0], [0]), ([], []), ([2], [2]), ([3], [3]), ([1, 4], [1, 4]), ([], []), ([6], [6]), ([7, 4], [7]), ([5, 8], [5, 8]), ([0, 1, 2, 3, 4, 5, 6, 7, 8, 9], []), ([10, 9, 8, 0, 1, 2, 3, 4, 5, 6, 7, 8, 9], [9, 10])])
def spec_l02Prefix.B4 : List Nat := [0, 1, 0, 4, 12, 31, 0, 64, 220, 511, 1023, 2047]
theorem spec_l02Prefix.tab4 : rtab .any (opsOf Tryd.f41 4) = spec_l02Prefix.T4 := by kernel_rfl
theorem spec_l02Prefix.bits4 : waitsOk spec_l02Prefix.T4.2 spec_l02Prefix.B4 = true := by kernel_rfl
set_option maxHeartbeats 60000000 in
set_option maxRecDepth 100000 in
theorem spec_l02Prefix.calls (k : Nat) (g : Nat) (s0_0 : List Int) (s0_1 : Int) (s0_2 : Int) (r1 : Int) (r2 : Int) (r3 : Int) (r4 : Int) (w0 w : World) (hI : IsS62 w0 w g s0_0 s0_1 s0_2) (hB : Below w0.heap.size w0 w) (h : spec_l02Prefix.f k s0_0 s0_1 s0_2 = some (r1, r2, r3, r4)) :
 Calls Tryd.prog 41 #[.pointer (some ⟨g, 0, none⟩)] w fun e w' => e = .returned (.agg #[.int .i64 r1, .int .i64 r2]) ∧ IsS62 w0 w' g s0_0 r3 r4 ∧ Below w0.heap.size w0 w' ∧ KeepBut w w' g none := by
 have hu36 := Tryd.underlying36
 have HI0 := Aside0.mk hI
 have HK := Aside0.mk (KeepBut.refl w g none)
 have HL := Aside0.mk hB.size
 clear hI
 have HW0 := Aside0.mk hB.size
 have HB := Aside0.mk hB
 clear hB
 have H : ((spec_l02Host.f s0_0 s0_1 s0_2).bind fun bt178 => ((spec_l01Next.f s0_0 bt178.2.1 bt178.2.2 33).bind fun bt181 => ((spec_l01Next.f s0_0 bt181.2.1 bt181.2.2 2).bind fun bt185 => (if bt185.1 = 0 then ((spec_l01Next.f s0_0 bt185.2.1 bt185.2.2 11).bind fun bt188 => ((spec_l02Size.f k (wrap64 (22 + bt188.1))).bind fun t191 => (if t191 = 0 then (none) else ((spec_l02Size.f k (wrap64 (22 + bt188.1))).bind fun t192 => (some (wrap64 ((wrap64 (Int.tdiv bt178.1 t191)) * t192), wrap64 (22 + bt188.1), bt188.2.1, bt188.2.2)))))) else ((spec_l02Size.f k bt181.1).bind fun t193 => (if t193 = 0 then (none) else ((spec_l02Size.f k bt181.1).bind fun t194 => (some (wrap64 ((wrap64 (Int.tdiv bt178.1 t193)) * t194), bt181.1, bt185.2.1, bt185.2.2))))))))) = some (r1, r2, r3, r4) := h
 clear h
 replace H := Option.bind_eq_some_iff.mp H
 obtain ⟨⟨t178, t179, t180⟩, A20, H⟩ := H
 replace H : ((spec_l01Next.f s0_0 t179 t180 33).bind fun bt181 => ((spec_l01Next.f s0_0 bt181.2.1 bt181.2.2 2).bind fun bt185 => (if bt185.1 = 0 then ((spec_l01Next.f s0_0 bt185.2.1 bt185.2.2 11).bind fun bt188 => ((spec_l02Size.f k (wrap64 (22 + bt188.1))).bind fun t191 => (if t191 = 0 then (none) else ((spec_l02Size.f k (wrap64 (22 + bt188.1))).bind fun t192 => (some (wrap64 ((wrap64 (Int.tdiv t178 t191)) * t192), wrap64 (22 + bt188.1), bt188.2.1, bt188.2.2)))))) else ((spec_l02Size.f k bt181.1).bind fun t193 => (if t193 = 0 then (none) else ((spec_l02Size.f k bt181.1).bind fun t194 => (some (wrap64 ((wrap64 (Int.tdiv t178 t193)) * t194), bt181.1, bt185.2.1, bt185.2.2)))))))) = some (r1, r2, r3, r4) := H
 have A2 := Aside0.mk A20
 clear A20
 replace H := Option.bind_eq_some_iff.mp H
 obtain ⟨⟨t181, t182, t183⟩, A30, H⟩ := H
 replace H : ((spec_l01Next.f s0_0 t182 t183 2).bind fun bt185 => (if bt185.1 = 0 then ((spec_l01Next.f s0_0 bt185.2.1 bt185.2.2 11).bind fun bt188 => ((spec_l02Size.f k (wrap64 (22 + bt188.1))).bind fun t191 => (if t191 = 0 then (none) else ((spec_l02Size.f k (wrap64 (22 + bt188.1))).bind fun t192 => (some (wrap64 ((wrap64 (Int.tdiv t178 t191)) * t192), wrap64 (22 + bt188.1), bt188.2.1, bt188.2.2)))))) else ((spec_l02Size.f k t181).bind fun t193 => (if t193 = 0 then (none) else ((spec_l02Size.f k t181).bind fun t194 => (some (wrap64 ((wrap64 (Int.tdiv t178 t193)) * t194), t181, bt185.2.1, bt185.2.2))))))) = some (r1, r2, r3, r4) := H
 have A3 := Aside0.mk A30
 clear A30
 replace H := Option.bind_eq_some_iff.mp H
 obtain ⟨⟨t185, t186, t187⟩, A40, H⟩ := H
 replace H : (if t185 = 0 then ((spec_l01Next.f s0_0 t186 t187 11).bind fun bt188 => ((spec_l02Size.f k (wrap64 (22 + bt188.1))).bind fun t191 => (if t191 = 0 then (none) else ((spec_l02Size.f k (wrap64 (22 + bt188.1))).bind fun t192 => (some (wrap64 ((wrap64 (Int.tdiv t178 t191)) * t192), wrap64 (22 + bt188.1), bt188.2.1, bt188.2.2)))))) else ((spec_l02Size.f k t181).bind fun t193 => (if t193 = 0 then (none) else ((spec_l02Size.f k t181).bind fun t194 => (some (wrap64 ((wrap64 (Int.tdiv t178 t193)) * t194), t181, t186, t187)))))) = some (r1, r2, r3, r4) := H
 have A4 := Aside0.mk A40
 clear A40
 by_cases c5 : t185 = 0
 rw [if_pos c5] at H
 have c5b0 : (t185 == 0) = true := beq_iff_eq.mpr c5
 have c5b1 : (t185 != 0) = false := bne_eq_false_iff_eq.mpr c5
 clear c5
 replace H := Option.bind_eq_some_iff.mp H
 obtain ⟨⟨t188, t189, t190⟩, A60, H⟩ := H
 replace H : ((spec_l02Size.f k (wrap64 (22 + t188))).bind fun t191 => (if t191 = 0 then (none) else ((spec_l02Size.f k (wrap64 (22 + t188))).bind fun t192 => (some (wrap64 ((wrap64 (Int.tdiv t178 t191)) * t192), wrap64 (22 + t188), t189, t190))))) = some (r1, r2, r3, r4) := H
 have A6 := Aside0.mk A60
 clear A60
 replace H := Option.bind_eq_some_iff.mp H
 obtain ⟨t191, A70, H⟩ := H
 replace H : (if t191 = 0 then (none) else ((spec_l02Size.f k (wrap64 (22 + t188))).bind fun t192 => (some (wrap64 ((wrap64 (Int.tdiv t178 t191)) * t192), wrap64 (22 + t188), t189, t190)))) = some (r1, r2, r3, r4) := H
 have A7 := Aside0.mk A70
 clear A70
 by_cases c8 : t191 = 0
 rw [if_pos c8] at H
 exact absurd H (by simp)
 rw [if_neg c8] at H
 have c8b0 : (t191 == 0) = false := beq_eq_false_iff_ne.mpr c8
 have c8b1 : (t191 != 0) = true := bne_iff_ne.mpr c8
 replace H := Option.bind_eq_some_iff.mp H
 obtain ⟨t192, A90, H⟩ := H
 replace H : (some (wrap64 ((wrap64 (Int.tdiv t178 t191)) * t192), wrap64 (22 + t188), t189, t190)) = some (r1, r2, r3, r4) := H
 have A9 := Aside0.mk A90
 clear A90
 simp only [Option.some.injEq, Prod.mk.injEq] at H
 obtain ⟨rfl, rfl, rfl, rfl⟩ := H
 rotate_left
 rw [if_neg c5] at H
 have c5b0 : (t185 == 0) = false := beq_eq_false_iff_ne.mpr c5
 have c5b1 : (t185 != 0) = true := bne_iff_ne.mpr c5
 replace H := Option.bind_eq_some_iff.mp H
 obtain ⟨t193, A100, H⟩ := H
 replace H : (if t193 = 0 then (none) else ((spec_l02Size.f k t181).bind fun t194 => (some (wrap64 ((wrap64 (Int.tdiv t178 t193)) * t194), t181, t186, t187)))) = some (r1, r2, r3, r4) := H
 have A10 := Aside0.mk A100
 clear A100
 by_cases c11 : t193 = 0
 rw [if_pos c11] at H
 exact absurd H (by simp)
 rw [if_neg c11] at H
 have c11b0 : (t193 == 0) = false := beq_eq_false_iff_ne.mpr c11
 have c11b1 : (t193 != 0) = true := bne_iff_ne.mpr c11
 replace H := Option.bind_eq_some_iff.mp H
 obtain ⟨t194, A120, H⟩ := H
 replace H : (some (wrap64 ((wrap64 (Int.tdiv t178 t193)) * t194), t181, t186, t187)) = some (r1, r2, r3, r4) := H
 have A12 := Aside0.mk A120
 clear A120
 simp only [Option.some.injEq, Prod.mk.injEq] at H
 obtain ⟨rfl, rfl, rfl, rfl⟩ := H
 rotate_left
 all_goals (
 go_enter Tryd.func41, Tryd.ntmps41
 try go_wp2_with (first | ((with_reducible refine gate_dst (N := 2) rfl ?_); refine box_event ?hg (N := 2) ?hd (cs := #[.int .i64 0, .int .i64 0]) (t := 36) ?hr ?_; (case hd => rfl); (case hg => rfl); (case hr => first | (go_simp; done) | (go_simp; rfl)); intro gb177 hg w1001 hbox hb; have n0_ := Aside0.mk (IsS62.below (by repeat (first | (with_reducible first | exact HI0.out | apply IsS62.alloc | apply IsS62.drewN | apply IsS62.drew | apply IsS62.set_1 | apply IsS62.set_2) | exact HI0.out)) hb); have n1_ := Aside0.mk (KeepBut.trans (by repeat (first | (with_reducible first | exact HK.out | apply KeepBut.set_ | apply keep_drewN | apply keep_drew | apply keep_alloc) | exact HK.out)) (KeepBut.of_below hb g none) (.inl rfl)); have n2_ := Aside0.mk (below_step (by repeat (first | (with_reducible first | exact HB.out | apply below_alloc | apply pw_below_drewN | apply below_drew1 | refine below_set ?_ (IsS62.ge HI0.out)) | exact HB.out)) hb); have n3_ := Aside0.mk (hbox); have n4_ := Aside0.mk ((by rw [hg]; exact (keep_size (w := w) (g := g) (row := none) (by repeat (first | (with_reducible first | exact HK.out | apply KeepBut.set_ | apply keep_drewN | apply keep_drew | apply keep_alloc) | exact HK.out))) : w.heap.size ≤ gb177)); have n5_ := Aside0.mk ((Nat.le_trans HW0.out (by rw [hg]; exact (keep_size (w := w) (g := g) (row := none) (by repeat (first | (with_reducible first | exact HK.out | apply KeepBut.set_ | apply keep_drewN | apply keep_drew | apply keep_alloc) | exact HK.out))) : w.heap.size ≤ gb177) : w0.heap.size ≤ gb177)); have n6_ := Aside0.mk ((by rw [hg]; exact Nat.ne_of_lt (IsS62.lt (show IsS62 w0 _ g s0_0 s0_1 s0_2 from by repeat (first | (with_reducible first | exact HI0.out | apply IsS62.alloc | apply IsS62.drewN | apply IsS62.drew | apply IsS62.set_1 | apply IsS62.set_2) | exact HI0.out))) : g ≠ gb177)); have n7_ := Aside0.mk ((by rw [hg]; exact Nat.ne_of_gt (IsS62.lt (show IsS62 w0 _ g s0_0 s0_1 s0_2 from by repeat (first | (with_reducible first | exact HI0.out | apply IsS62.alloc | apply IsS62.drewN | apply IsS62.drew | apply IsS62.set_1 | apply IsS62.set_2) | exact HI0.out))) : gb177 ≠ g)); clear HI0; clear HK; clear HB; have HI0 := n0_; have HK := n1_; have HB := n2_; have BK177 := n3_; have GW177 := n4_; have GE177 := n5_; have NB0_177 := n6_; have NB177_0 := n7_; clear n0_ n1_ n2_ n3_ n4_ n5_ n6_ n7_; clear hb hbox hg) | ((with_reducible refine gate_callee (f := 63) rfl ?_); refine goesL_ (some 5) rfl rfl Tryd.func63 (by kernel_rfl) rfl #[.pointer (some ⟨g, 0, none⟩)] rfl wT ?_; (with_reducible refine (spec_l02Host.calls g s0_0 s0_1 s0_2 t178 t179 t180 w0 _ ?side1 ?side2 A2.out).mono ?_); (case side1 => repeat (first | (with_reducible first | exact HI0.out | apply IsS62.alloc | apply IsS62.drewN | apply IsS62.drew | apply IsS62.set_1 | apply IsS62.set_2 | refine IsS62.far ?_ NB0_177.out _) | exact HI0.out)); (case side2 => repeat (first | (with_reducible first | exact HB.out | apply below_alloc | apply pw_below_drewN | apply below_drew1 | refine below_set ?_ (IsS62.ge HI0.out) | refine below_set ?_ GE177.out) | exact HB.out)); rintro e w1002 ⟨rfl, hi, hb, hk⟩; refine ⟨_, rfl, ?_⟩; have n0_ := Aside0.mk (KeepBut.blk hk (g' := gb177) (o := .cells #[.int .i64 0, .int .i64 0] 36 (0, 0)) (Bh BK177) NB177_0.out (by simp)); have n1_ := Aside0.mk (KeepBut.trans (by repeat (first | (with_reducible first | exact HK.out | apply KeepBut.set_ | apply keep_drewN | apply keep_drew | apply keep_alloc | refine keep_far ?_ GW177.out _) | exact HK.out)) hk (.inl rfl)); have n2_ := Aside0.mk (hb); have n3_ := Aside0.mk (hi); clear BK177; clear HK; clear HB; clear HI0; have BK177 := n0_; have HK := n1_; have HB := n2_; have HI0 := n3_; clear n0_ n1_ n2_ n3_; (try clear hb); (try clear hb2); (try clear hk); (try clear hi)) | ((with_reducible refine gate_callee (f := 64) rfl ?_); refine goesL_ (some 7) rfl rfl Tryd.func64 (by kernel_rfl) rfl #[.pointer (some ⟨g, 0, none⟩), .int .i64 33] rfl wT ?_; (with_reducible refine (spec_l01Next.calls g s0_0 t179 t180 33 t181 t182 t183 w0 _ ?side1 ?side2 A3.out).mono ?_); (case side1 => repeat (first | (with_reducible first | exact HI0.out | apply IsS62.alloc | apply IsS62.drewN | apply IsS62.drew | apply IsS62.set_1 | apply IsS62.set_2 | refine IsS62.far ?_ NB0_177.out _) | exact HI0.out)); (case side2 => repeat (first | (with_reducible first | exact HB.out | apply below_alloc | apply pw_below_drewN | apply below_drew1 | refine below_set ?_ (IsS62.ge HI0.out) | refine below_set ?_ GE177.out) | exact HB.out)); rintro e w1003 ⟨rfl, hi, hb, hk⟩; refine ⟨_, rfl, ?_⟩; have n0_ := Aside0.mk (KeepBut.blk hk (g' := gb177) (o := .cells #[.int .i64 0, .int .i64 0] 36 (0, 0)) (Bh BK177) NB177_0.out (by simp)); have n1_ := Aside0.mk (KeepBut.trans (by repeat (first | (with_reducible first | exact HK.out | apply KeepBut.set_ | apply keep_drewN | apply keep_drew | apply keep_alloc | refine keep_far ?_ GW177.out _) | exact HK.out)) hk (.inl rfl)); have n2_ := Aside0.mk (hb); have n3_ := Aside0.mk (hi); clear BK177; clear HK; clear HB; clear HI0; have BK177 := n0_; have HK := n1_; have HB := n2_; have HI0 := n3_; clear n0_ n1_ n2_ n3_; (try clear hb); (try clear hb2); (try clear hk); (try clear hi)) | ((with_reducible refine gate_dst (N := 3) rfl ?_); refine box_event ?hg (N := 3) ?hd (cs := #[.int .i64 0, .int .i64 0]) (t := 36) ?hr ?_; (case hd => rfl); (case hg => rfl); (case hr => first | (go_simp; done) | (go_simp; rfl)); intro gb184 hg w1004 hbox hb; have n0_ := Aside0.mk (IsS62.below (by repeat (first | (with_reducible first | exact HI0.out | apply IsS62.alloc | apply IsS62.drewN | apply IsS62.drew | apply IsS62.set_1 | apply IsS62.set_2 | refine IsS62.far ?_ NB0_177.out _) | exact HI0.out)) hb); have n1_ := Aside0.mk (blk_below (Bh BK177) hb); have n2_ := Aside0.mk (KeepBut.trans (by repeat (first | (with_reducible first | exact HK.out | apply KeepBut.set_ | apply keep_drewN | apply keep_drew | apply keep_alloc | refine keep_far ?_ GW177.out _) | exact HK.out)) (KeepBut.of_below hb g none) (.inl rfl)); have n3_ := Aside0.mk (below_step (by repeat (first | (with_reducible first | exact HB.out | apply below_alloc | apply pw_below_drewN | apply below_drew1 | refine below_set ?_ (IsS62.ge HI0.out) | refine below_set ?_ GE177.out) | exact HB.out)) hb); have n4_ := Aside0.mk (hbox); have n5_ := Aside0.mk ((by rw [hg]; exact (keep_size (w := w) (g := g) (row := none) (by repeat (first | (with_reducible first | exact HK.out | apply KeepBut.set_ | apply keep_drewN | apply keep_drew | apply keep_alloc | refine keep_far ?_ GW177.out _) | exact HK.out))) : w.heap.size ≤ gb184)); have n6_ := Aside0.mk ((Nat.le_trans HW0.out (by rw [hg]; exact (keep_size (w := w) (g := g) (row := none) (by repeat (first | (with_reducible first | exact HK.out | apply KeepBut.set_ | apply keep_drewN | apply keep_drew | apply keep_alloc | refine keep_far ?_ GW177.out _) | exact HK.out))) : w.heap.size ≤ gb184) : w0.heap.size ≤ gb184)); have n7_ := Aside0.mk ((by rw [hg]; exact Nat.ne_of_lt (blk_lt (Bh BK177)) : gb177 ≠ gb184)); have n8_ := Aside0.mk ((by rw [hg]; exact Nat.ne_of_gt (blk_lt (Bh BK177)) : gb184 ≠ gb177)); have n9_ := Aside0.mk ((by rw [hg]; exact Nat.ne_of_lt (IsS62.lt (show IsS62 w0 _ g s0_0 t182 t183 from by repeat (first | (with_reducible first | exact HI0.out | apply IsS62.alloc | apply IsS62.drewN | apply IsS62.drew | apply IsS62.set_1 | apply IsS62.set_2 | refine IsS62.far ?_ NB0_177.out _) | exact HI0.out))) : g ≠ gb184)); have n10_ := Aside0.mk ((by rw [hg]; exact Nat.ne_of_gt (IsS62.lt (show IsS62 w0 _ g s0_0 t182 t183 from by repeat (first | (with_reducible first | exact HI0.out | apply IsS62.alloc | apply IsS62.drewN | apply IsS62.drew | apply IsS62.set_1 | apply IsS62.set_2 | refine IsS62.far ?_ NB0_177.out _) | exact HI0.out))) : gb184 ≠ g)); clear HI0; clear BK177; clear HK; clear HB; have HI0 := n0_; have BK177 := n1_; have HK := n2_; have HB := n3_; have BK184 := n4_; have GW184 := n5_; have GE184 := n6_; have NB177_184 := n7_; have NB184_177 := n8_; have NB0_184 := n9_; have NB184_0 := n10_; clear n0_ n1_ n2_ n3_ n4_ n5_ n6_ n7_ n8_ n9_ n10_; clear hb hbox hg; have hnb1005 := NB184_177.out; have hnc1005 := NB177_184.out; have hnb1006 := NB184_0.out; have hnc1006 := NB0_184.out; obtain ⟨⟨hcz1007_0, hcz1007_1⟩, hfz1007_0, hfz1007_1⟩ := cells2 BK184.out) | ((with_reducible refine gate_store (t := 36) (p := 3) rfl ?_); (try (rw [drewN_self w1004]; generalize hq_ : World.drewN w1004 _ = w1004; have n0_ := Aside0.mk (blk_at hq_ BK177.out); have n1_ := Aside0.mk (blk_at hq_ BK184.out); have n2_ := Aside0.mk (IsS62.at_ hq_ HI0.out); have n3_ := Aside0.mk (keep_at hq_ HK.out); have n4_ := Aside0.mk (below_at hq_ HB.out); clear hq_ BK177 BK184 HI0 HK HB; have BK177 := n0_; have BK184 := n1_; have HI0 := n2_; have HK := n3_; have HB := n4_; clear n0_ n1_ n2_ n3_ n4_; (try (obtain ⟨⟨hcyBK177_0, hcyBK177_1⟩, hfyBK177_0, hfyBK177_1⟩ := cells2 BK177.out)); (try (obtain ⟨⟨hcyBK184_0, hcyBK184_1⟩, hfyBK184_0, hfyBK184_1⟩ := cells2 BK184.out)))); refine store_event (t := 36) (p := 3) (v := ?_) (w1 := ((w1004.setCell ⟨gb184, 0, none⟩ (.int .i64 t178)).setCell ⟨gb184, 1, none⟩ (.int .i64 t181))) ?hg ?ho ?hn ?hr ?_; (case ho => rfl); (case hg => rfl); (case hn => rfl); (case hr => first | (go_simp; done) | (go_simp; rfl)); intro w1008 hw; have n0_ : Aside0 (w1008.heap[gb177]? = some (.cells #[.int .i64 0, .int .i64 0] 36 (0, 0))) := ⟨(by rw [hw]; exact (by (with_reducible repeat (first | refine blk_drewN ?_ _ | refine blk_drew ?_ | refine blk_alloc ?_ _)); refine blk_far ?_ NB177_184.out _; (with_reducible repeat (first | refine blk_drewN ?_ _ | refine blk_drew ?_ | refine blk_alloc ?_ _)); refine blk_far ?_ NB177_184.out _; (with_reducible repeat (first | refine blk_drewN ?_ _ | refine blk_drew ?_ | refine blk_alloc ?_ _)); exact BK177.out))⟩; have n1_ : Aside0 (w1008.heap[gb184]? = some (.cells #[.int .i64 t178, .int .i64 t181] 36 (0, 0))) := ⟨(by rw [hw]; exact (by (with_reducible repeat (first | refine blk_drewN ?_ _ | refine blk_drew ?_ | refine blk_alloc ?_ _)); refine blk_put (cs := #[.int .i64 t178, .int .i64 0]) ?_ 1 _ rfl; (with_reducible repeat (first | refine blk_drewN ?_ _ | refine blk_drew ?_ | refine blk_alloc ?_ _)); refine blk_put (cs := #[.int .i64 0, .int .i64 0]) ?_ 0 _ rfl; (with_reducible repeat (first | refine blk_drewN ?_ _ | refine blk_drew ?_ | refine blk_alloc ?_ _)); exact BK184.out))⟩; have n2_ : Aside0 (IsS62 w0 w1008 g s0_0 t182 t183) := ⟨(by rw [hw]; exact (by repeat (first | (with_reducible first | exact HI0.out | apply IsS62.alloc | apply IsS62.drewN | apply IsS62.drew | apply IsS62.set_1 | apply IsS62.set_2 | refine IsS62.far ?_ NB0_177.out _ | refine IsS62.far ?_ NB0_184.out _) | exact HI0.out)))⟩; have n3_ : Aside0 (KeepBut w w1008 g none) := ⟨(by rw [hw]; exact (by repeat (first | (with_reducible first | exact HK.out | apply KeepBut.set_ | apply keep_drewN | apply keep_drew | apply keep_alloc | refine keep_far ?_ GW177.out _ | refine keep_far ?_ GW184.out _) | exact HK.out)))⟩; have n4_ : Aside0 (Below w0.heap.size w0 w1008) := ⟨(by rw [hw]; exact (by repeat (first | (with_reducible first | exact HB.out | apply below_alloc | apply pw_below_drewN | apply below_drew1 | refine below_set ?_ (IsS62.ge HI0.out) | refine below_set ?_ GE177.out | refine below_set ?_ GE184.out) | exact HB.out)))⟩; clear hw; clear BK177; clear BK184; clear HI0; clear HK; clear HB; have BK177 := n0_; have BK184 := n1_; have HI0 := n2_; have HK := n3_; have HB := n4_; clear n0_ n1_ n2_ n3_ n4_) | ((with_reducible refine gate_callee (f := 64) rfl ?_); refine goesL_ (some 10) rfl rfl Tryd.func64 (by kernel_rfl) rfl #[.pointer (some ⟨g, 0, none⟩), .int .i64 2] rfl wT ?_; (with_reducible refine (spec_l01Next.calls g s0_0 t182 t183 2 t185 t186 t187 w0 _ ?side1 ?side2 A4.out).mono ?_); (case side1 => repeat (first | (with_reducible first | exact HI0.out | apply IsS62.alloc | apply IsS62.drewN | apply IsS62.drew | apply IsS62.set_1 | apply IsS62.set_2 | refine IsS62.far ?_ NB0_177.out _ | refine IsS62.far ?_ NB0_184.out _) | exact HI0.out)); (case side2 => repeat (first | (with_reducible first | exact HB.out | apply below_alloc | apply pw_below_drewN | apply below_drew1 | refine below_set ?_ (IsS62.ge HI0.out) | refine below_set ?_ GE177.out | refine below_set ?_ GE184.out) | exact HB.out)); rintro e w1009 ⟨rfl, hi, hb, hk⟩; refine ⟨_, rfl, ?_⟩; have n0_ := Aside0.mk (KeepBut.blk hk (g' := gb177) (o := .cells #[.int .i64 0, .int .i64 0] 36 (0, 0)) (Bh BK177) NB177_0.out (by simp)); have n1_ := Aside0.mk (KeepBut.blk hk (g' := gb184) (o := .cells #[.int .i64 t178, .int .i64 t181] 36 (0, 0)) (Bh BK184) NB184_0.out (by simp)); have n2_ := Aside0.mk (KeepBut.trans (by repeat (first | (with_reducible first | exact HK.out | apply KeepBut.set_ | apply keep_drewN | apply keep_drew | apply keep_alloc | refine keep_far ?_ GW177.out _ | refine keep_far ?_ GW184.out _) | exact HK.out)) hk (.inl rfl)); have n3_ := Aside0.mk (hb); have n4_ := Aside0.mk (hi); clear BK177; clear BK184; clear HK; clear HB; clear HI0; have BK177 := n0_; have BK184 := n1_; have HK := n2_; have HB := n3_; have HI0 := n4_; clear n0_ n1_ n2_ n3_ n4_; (try clear hb); (try clear hb2); (try clear hk); (try clear hi)) | ((with_reducible refine gate_callee (f := 64) rfl ?_); refine goesL_ (some 13) rfl rfl Tryd.func64 (by kernel_rfl) rfl #[.pointer (some ⟨g, 0, none⟩), .int .i64 11] rfl wT ?_; (with_reducible refine (spec_l01Next.calls g s0_0 t186 t187 11 t188 t189 t190 w0 _ ?side1 ?side2 A6.out).mono ?_); (case side1 => repeat (first | (with_reducible first | exact HI0.out | apply IsS62.alloc | apply IsS62.drewN | apply IsS62.drew | apply IsS62.set_1 | apply IsS62.set_2 | refine IsS62.far ?_ NB0_177.out _ | refine IsS62.far ?_ NB0_184.out _) | exact HI0.out)); (case side2 => repeat (first | (with_reducible first | exact HB.out | apply below_alloc | apply pw_below_drewN | apply below_drew1 | refine below_set ?_ (IsS62.ge HI0.out) | refine below_set ?_ GE177.out | refine below_set ?_ GE184.out) | exact HB.out)); rintro e w1010 ⟨rfl, hi, hb, hk⟩; refine ⟨_, rfl, ?_⟩; have n0_ := Aside0.mk (KeepBut.blk hk (g' := gb177) (o := .cells #[.int .i64 0, .int .i64 0] 36 (0, 0)) (Bh BK177) NB177_0.out (by simp)); have n1_ := Aside0.mk (KeepBut.blk hk (g' := gb184) (o := .cells #[.int .i64 t178, .int .i64 t181] 36 (0, 0)) (Bh BK184) NB184_0.out (by simp)); have n2_ := Aside0.mk (KeepBut.trans (by repeat (first | (with_reducible first | exact HK.out | apply KeepBut.set_ | apply keep_drewN | apply keep_drew | apply keep_alloc | refine keep_far ?_ GW177.out _ | refine keep_far ?_ GW184.out _) | exact HK.out)) hk (.inl rfl)); have n3_ := Aside0.mk (hb); have n4_ := Aside0.mk (hi); clear BK177; clear BK184; clear HK; clear HB; clear HI0; have BK177 := n0_; have BK184 := n1_; have HK := n2_; have HB := n3_; have HI0 := n4_; clear n0_ n1_ n2_ n3_ n4_; (try clear hb); (try clear hb2); (try clear hk); (try clear hi); obtain ⟨⟨hcz1011_0, hcz1011_1⟩, hfz1011_0, hfz1011_1⟩ := cells2 BK184.out))
 )
 {
 have n0_ : Aside0 ((w1010.setCell ⟨gb184, 1, none⟩ (.int .i64 (wrap64 (22 + t188)))).heap[gb177]? = some (.cells #[.int .i64 0, .int .i64 0] 36 (0, 0))) := ⟨by (with_reducible repeat (first | refine blk_drewN ?_ _ | refine blk_drew ?_ | refine blk_alloc ?_ _)); refine blk_far ?_ NB177_184.out _; (with_reducible repeat (first | refine blk_drewN ?_ _ | refine blk_drew ?_ | refine blk_alloc ?_ _)); exact BK177.out⟩
 have n1_ : Aside0 ((w1010.setCell ⟨gb184, 1, none⟩ (.int .i64 (wrap64 (22 + t188)))).heap[gb184]? = some (.cells #[.int .i64 t178, .int .i64 (wrap64 (22 + t188))] 36 (0, 0))) := ⟨by (with_reducible repeat (first | refine blk_drewN ?_ _ | refine blk_drew ?_ | refine blk_alloc ?_ _)); refine blk_put (cs := #[.int .i64 t178, .int .i64 t181]) ?_ 1 _ rfl; (with_reducible repeat (first | refine blk_drewN ?_ _ | refine blk_drew ?_ | refine blk_alloc ?_ _)); exact BK184.out⟩
 have n2_ : Aside0 (IsS62 w0 (w1010.setCell ⟨gb184, 1, none⟩ (.int .i64 (wrap64 (22 + t188)))) g s0_0 t189 t190) := ⟨by repeat (first | (with_reducible first | exact HI0.out | apply IsS62.alloc | apply IsS62.drewN | apply IsS62.drew | apply IsS62.set_1 | apply IsS62.set_2 | refine IsS62.far ?_ NB0_177.out _ | refine IsS62.far ?_ NB0_184.out _) | exact HI0.out)⟩
 have n3_ : Aside0 (KeepBut w (w1010.setCell ⟨gb184, 1, none⟩ (.int .i64 (wrap64 (22 + t188)))) g none) := ⟨by repeat (first | (with_reducible first | exact HK.out | apply KeepBut.set_ | apply keep_drewN | apply keep_drew | apply keep_alloc | refine keep_far ?_ GW177.out _ | refine keep_far ?_ GW184.out _) | exact HK.out)⟩
 have n4_ : Aside0 (Below w0.heap.size w0 (w1010.setCell ⟨gb184, 1, none⟩ (.int .i64 (wrap64 (22 + t188))))) := ⟨by repeat (first | (with_reducible first | exact HB.out | apply below_alloc | apply pw_below_drewN | apply below_drew1 | refine below_set ?_ (IsS62.ge HI0.out) | refine below_set ?_ GE177.out | refine below_set ?_ GE184.out) | exact HB.out)⟩
 (try clear BK177)
 (try clear BK184)
 (try clear HI0)
 (try clear HK)
 (try clear HB)
 generalize (w1010.setCell ⟨gb184, 1, none⟩ (.int .i64 (wrap64 (22 + t188)))) = w1012 at n0_ n1_ n2_ n3_ n4_ ⊢
 have BK177 := n0_
 have BK184 := n1_
 have HI0 := n2_
 have HK := n3_
 have HB := n4_
 clear n0_ n1_ n2_ n3_ n4_
 have n0_ := Aside0.mk (blk_drew BK177.out)
 have n1_ := Aside0.mk (blk_drew BK184.out)
 have n2_ := Aside0.mk (IsS62.drew HI0.out)
 have n3_ := Aside0.mk (keep_drew HK.out)
 have n4_ := Aside0.mk (below_drew1 HB.out)
 clear BK177
 clear BK184
 clear HI0
 clear HK
 clear HB
 have BK177 := n0_
 have BK184 := n1_
 have HI0 := n2_
 have HK := n3_
 have HB := n4_
 clear n0_ n1_ n2_ n3_ n4_
 refine start_ (n := 12) (S := fun w' => w'.cell? ⟨gb184, 0, none⟩ = some (.int .i64 t178) ∧ w'.cell? ⟨gb184, 1, none⟩ = some (.int .i64 (wrap64 (22 + t188)))) (ds := [11]) #[false, false, false, false, false, false, false, false, false, false, false, false] (by kernel_rfl) rfl rfl ⟨(blk_cell BK184.out 0).trans rfl, (blk_cell BK184.out 1).trans rfl⟩ (fun hHeld => ?_); refine with_tabW spec_l02Prefix.tab4 spec_l02Prefix.bits4 (fun HT_ HW_ => ?_)
 generalize w1012.drew = w1013 at BK177 BK184 HI0 HK HB hHeld ⊢
 refine pure_ (i := 0) (N := some 16) (v := ?_) (a' := ?_) #[true, false, false, false, false, false, false, false, false, false, false, false] rfl rfl (any_of HT_.out (by kernel_rfl)) (fun _ _ _ h => h) (Or.inl ⟨by rfl, ?_⟩) ?_ ?_
 rotate_left
 {
 intro w'
 go_simp
 with_reducible rfl
 }
 rotate_left
 {
 simp only [Act.put, List.setIfInBounds_toArray, List.set_cons_zero, List.set_cons_succ, i64_w, i32_w]
 rfl
 }
 refine pure_ (i := 2) (N := some 18) (v := ?_) (a' := ?_) #[true, false, true, false, false, false, false, false, false, false, false, false] rfl rfl (any_of HT_.out (by kernel_rfl)) (fun _ _ _ h => h) (Or.inl ⟨by rfl, ?_⟩) ?_ ?_
 rotate_left
 {
 intro w'
 go_simp
 with_reducible rfl
 }
 rotate_left
 {
 simp only [Act.put, List.setIfInBounds_toArray, List.set_cons_zero, List.set_cons_succ, i64_w, i32_w]
 rfl
 }
 refine pure_ (i := 6) (N := some 22) (v := ?_) (a' := ?_) #[true, false, true, false, false, false, true, false, false, false, false, false] rfl rfl (any_of HT_.out (by kernel_rfl)) (fun _ _ _ h => h) (Or.inl ⟨by rfl, ?_⟩) ?_ ?_
 rotate_left
 {
 intro w'
 go_simp
 with_reducible rfl
 }
 rotate_left
 {
 simp only [Act.put, List.setIfInBounds_toArray, List.set_cons_zero, List.set_cons_succ, i64_w, i32_w]
 rfl
 }
 refine take_ (i := 1) (N := some 17) (v := ?_) (a' := ?_) #[true, true, true, false, false, false, true, false, false, false, false, false] rfl rfl (take_ofW HT_.out HW_.out (by kernel_rfl)) (fun _ _ _ h => h) (Or.inl ⟨by rfl, ?_⟩) hHeld ?_ ?_
 rotate_left
 {
 rintro w' ⟨s0, s1⟩
 go_simp
 with_reducible rfl
 }
 rotate_left
 {
 simp only [Act.put, List.setIfInBounds_toArray, List.set_cons_zero, List.set_cons_succ, i64_w, i32_w]
 rfl
 }
 refine take_ (i := 3) (N := some 19) (v := ?_) (a' := ?_) #[true, true, true, true, false, false, true, false, false, false, false, false] rfl rfl (take_ofW HT_.out HW_.out (by kernel_rfl)) (fun _ _ _ h => h) (Or.inl ⟨by rfl, ?_⟩) hHeld ?_ ?_
 rotate_left
 {
 rintro w' ⟨s0, s1⟩
 go_simp
 with_reducible rfl
 }
 rotate_left
 {
 simp only [Act.put, List.setIfInBounds_toArray, List.set_cons_zero, List.set_cons_succ, i64_w, i32_w]
 rfl
 }
 refine take_ (i := 7) (N := some 23) (v := ?_) (a' := ?_) #[true, true, true, true, false, false, true, true, false, false, false, false] rfl rfl (take_ofW HT_.out HW_.out (by kernel_rfl)) (fun _ _ _ h => h) (Or.inl ⟨by rfl, ?_⟩) hHeld ?_ ?_
 rotate_left
 {
 rintro w' ⟨s0, s1⟩
 go_simp
 with_reducible rfl
 }
 rotate_left
 {
 simp only [Act.put, List.setIfInBounds_toArray, List.set_cons_zero, List.set_cons_succ, i64_w, i32_w]
 rfl
 }
 refine one_ (i := 4) (N := some 20) #[true, true, true, true, true, false, true, true, false, false, false, false] rfl rfl (one_of HT_.out (by kernel_rfl)) (by decide) (fun K hK => ?_)
 refine goes_ Tryd.func65 (by kernel_rfl) rfl #[.int .i64 (wrap64 (22 + t188))] (by rfl) rfl rfl wT ?_
 with_reducible refine (spec_l02Size.calls k (wrap64 (22 + t188)) t191 _ A7.out).mono ?_
 rintro e w' ⟨rfl, ⟨nd, rfl⟩⟩
 refine ⟨_, rfl, ?_⟩
 refine hK.out _ _ ⟨(blk_cell BK184.out 0).trans rfl, (blk_cell BK184.out 1).trans rfl⟩ (fun hHeld => ?_)
 clear hK K
 refine norm_ (a' := ?_) ?_ ?_
 rotate_left
 {
 show Act.put _ (some 20) _ = _
 simp only [Act.put, List.setIfInBounds_toArray, List.set_cons_zero, List.set_cons_succ, i64_w, i32_w]
 rfl
 }
 refine pure_ (i := 5) (N := some 21) (v := ?_) (a' := ?_) #[true, true, true, true, true, true, true, true, false, false, false, false] rfl rfl (any_of HT_.out (by kernel_rfl)) (fun _ _ _ h => h) (Or.inl ⟨by rfl, ?_⟩) ?_ ?_
 rotate_left
 {
 intro w'
 go_simp
 with_reducible rfl
 }
 rotate_left
 {
 simp only [Act.put, List.setIfInBounds_toArray, List.set_cons_zero, List.set_cons_succ, i64_w, i32_w]
 rfl
 }
 refine one_ (i := 8) (N := some 24) #[true, true, true, true, true, true, true, true, true, false, false, false] rfl rfl (one_of HT_.out (by kernel_rfl)) (by decide) (fun K hK => ?_)
 refine goes_ Tryd.func65 (by kernel_rfl) rfl #[.int .i64 (wrap64 (22 + t188))] (by rfl) rfl rfl wT ?_
 with_reducible refine (spec_l02Size.calls k (wrap64 (22 + t188)) t192 _ A9.out).mono ?_
 rintro e w' ⟨rfl, ⟨nd, rfl⟩⟩
 refine ⟨_, rfl, ?_⟩
 refine hK.out _ _ ⟨(blk_cell BK184.out 0).trans rfl, (blk_cell BK184.out 1).trans rfl⟩ (fun hHeld => ?_)
 clear hK K
 refine norm_ (a' := ?_) ?_ ?_
 rotate_left
 {
 show Act.put _ (some 24) _ = _
 simp only [Act.put, List.setIfInBounds_toArray, List.set_cons_zero, List.set_cons_succ, i64_w, i32_w]
 rfl
 }
 refine pure_ (i := 9) (N := some 25) (v := ?_) (a' := ?_) #[true, true, true, true, true, true, true, true, true, true, false, false] rfl rfl (any_of HT_.out (by kernel_rfl)) (fun _ _ _ h => h) (Or.inl ⟨by rfl, ?_⟩) ?_ ?_
 rotate_left
 {
 intro w'
 go_simp
 with_reducible rfl
 }
 rotate_left
 {
 simp only [Act.put, List.setIfInBounds_toArray, List.set_cons_zero, List.set_cons_succ, i64_w, i32_w]
 rfl
 }
 refine pure_ (i := 10) (N := some 26) (v := ?_) (a' := ?_) #[true, true, true, true, true, true, true, true, true, true, true, false] rfl rfl (any_of HT_.out (by kernel_rfl)) (fun _ _ _ h => h) (Or.inl ⟨by rfl, ?_⟩) ?_ ?_
 rotate_left
 {
 intro w'
 go_simp
 with_reducible rfl
 }
 rotate_left
 {
 simp only [Act.put, List.setIfInBounds_toArray, List.set_cons_zero, List.set_cons_succ, i64_w, i32_w]
 rfl
 }
 refine last_ (i := 11) (N := none) #[true, true, true, true, true, true, true, true, true, true, true, true] rfl rfl (one_of HT_.out (by kernel_rfl)) (by decide) (fun K hK => ?_)
 have hs1014 : w1013.cell? ⟨gb184, 0, none⟩ = some (.int .i64 t178) := (blk_cell BK184.out 0).trans rfl
 have hfs1014 := blk_frozen BK184.out 0
 have hns1014_0 := NB177_184.out
 have hms1014_0 := NB184_177.out
 refine skip_ (w1 := ?_) (by rfl) rfl ?_ ?_
 rotate_left
 {
 go_simp
 rfl
 }
 refine hK.out _ _ ?_
 clear hK K
 refine done_ (done_of HT_.out (by kernel_rfl)) ?_
 obtain ⟨⟨hcz1015_0, hcz1015_1⟩, hfz1015_0, hfz1015_1⟩ := cells2 BK184.out
 have hnb1016 := NB177_0.out
 have hnc1016 := NB0_177.out
 obtain ⟨⟨hcz1017_0, hcz1017_1⟩, hfz1017_0, hfz1017_1⟩ := cells2 BK177.out
 try go_wp2_with (first | ((with_reducible refine gate_store (t := 36) (p := 2) rfl ?_); (try (rw [drewN_self w1013]; generalize hq_ : World.drewN w1013 _ = w1013; have n0_ := Aside0.mk (blk_at hq_ BK177.out); have n1_ := Aside0.mk (blk_at hq_ BK184.out); have n2_ := Aside0.mk (IsS62.at_ hq_ HI0.out); have n3_ := Aside0.mk (keep_at hq_ HK.out); have n4_ := Aside0.mk (below_at hq_ HB.out); clear hq_ BK177 BK184 HI0 HK HB; have BK177 := n0_; have BK184 := n1_; have HI0 := n2_; have HK := n3_; have HB := n4_; clear n0_ n1_ n2_ n3_ n4_; (try (obtain ⟨⟨hcyBK177_0, hcyBK177_1⟩, hfyBK177_0, hfyBK177_1⟩ := cells2 BK177.out)); (try (obtain ⟨⟨hcyBK184_0, hcyBK184_1⟩, hfyBK184_0, hfyBK184_1⟩ := cells2 BK184.out)))); refine store_event (t := 36) (p := 2) (v := ?_) (w1 := (((w1013.setCell ⟨gb184, 0, none⟩ (.int .i64 (wrap64 ((wrap64 (Int.tdiv t178 t191)) * t192)))).setCell ⟨gb177, 0, none⟩ (.int .i64 (wrap64 ((wrap64 (Int.tdiv t178 t191)) * t192)))).setCell ⟨gb177, 1, none⟩ (.int .i64 (wrap64 (22 + t188))))) ?hg ?ho ?hn ?hr ?_; (case ho => rfl); (case hg => rfl); (case hn => rfl); (case hr => first | (go_simp; done) | (go_simp; rfl)); intro w1018 hw; have n0_ : Aside0 (w1018.heap[gb177]? = some (.cells #[.int .i64 (wrap64 ((wrap64 (Int.tdiv t178 t191)) * t192)), .int .i64 (wrap64 (22 + t188))] 36 (0, 0))) := ⟨(by rw [hw]; exact (by (with_reducible repeat (first | refine blk_drewN ?_ _ | refine blk_drew ?_ | refine blk_alloc ?_ _)); refine blk_put (cs := #[.int .i64 (wrap64 ((wrap64 (Int.tdiv t178 t191)) * t192)), .int .i64 0]) ?_ 1 _ rfl; (with_reducible repeat (first | refine blk_drewN ?_ _ | refine blk_drew ?_ | refine blk_alloc ?_ _)); refine blk_put (cs := #[.int .i64 0, .int .i64 0]) ?_ 0 _ rfl; (with_reducible repeat (first | refine blk_drewN ?_ _ | refine blk_drew ?_ | refine blk_alloc ?_ _)); refine blk_far ?_ NB177_184.out _; (with_reducible repeat (first | refine blk_drewN ?_ _ | refine blk_drew ?_ | refine blk_alloc ?_ _)); exact BK177.out))⟩; have n1_ : Aside0 (w1018.heap[gb184]? = some (.cells #[.int .i64 (wrap64 ((wrap64 (Int.tdiv t178 t191)) * t192)), .int .i64 (wrap64 (22 + t188))] 36 (0, 0))) := ⟨(by rw [hw]; exact (by (with_reducible repeat (first | refine blk_drewN ?_ _ | refine blk_drew ?_ | refine blk_alloc ?_ _)); refine blk_far ?_ NB184_177.out _; (with_reducible repeat (first | refine blk_drewN ?_ _ | refine blk_drew ?_ | refine blk_alloc ?_ _)); refine blk_far ?_ NB184_177.out _; (with_reducible repeat (first | refine blk_drewN ?_ _ | refine blk_drew ?_ | refine blk_alloc ?_ _)); refine blk_put (cs := #[.int .i64 t178, .int .i64 (wrap64 (22 + t188))]) ?_ 0 _ rfl; (with_reducible repeat (first | refine blk_drewN ?_ _ | refine blk_drew ?_ | refine blk_alloc ?_ _)); exact BK184.out))⟩; have n2_ : Aside0 (IsS62 w0 w1018 g s0_0 t189 t190) := ⟨(by rw [hw]; exact (by repeat (first | (with_reducible first | exact HI0.out | apply IsS62.alloc | apply IsS62.drewN | apply IsS62.drew | apply IsS62.set_1 | apply IsS62.set_2 | refine IsS62.far ?_ NB0_177.out _ | refine IsS62.far ?_ NB0_184.out _) | exact HI0.out)))⟩; have n3_ : Aside0 (KeepBut w w1018 g none) := ⟨(by rw [hw]; exact (by repeat (first | (with_reducible first | exact HK.out | apply KeepBut.set_ | apply keep_drewN | apply keep_drew | apply keep_alloc | refine keep_far ?_ GW177.out _ | refine keep_far ?_ GW184.out _) | exact HK.out)))⟩; have n4_ : Aside0 (Below w0.heap.size w0 w1018) := ⟨(by rw [hw]; exact (by repeat (first | (with_reducible first | exact HB.out | apply below_alloc | apply pw_below_drewN | apply below_drew1 | refine below_set ?_ (IsS62.ge HI0.out) | refine below_set ?_ GE177.out | refine below_set ?_ GE184.out) | exact HB.out)))⟩; clear hw; clear BK177; clear BK184; clear HI0; clear HK; clear HB; have BK177 := n0_; have BK184 := n1_; have HI0 := n2_; have HK := n3_; have HB := n4_; clear n0_ n1_ n2_ n3_ n4_))
 refine bodyPost_ret (results_cell_row rfl _ _ gb177 36 #[.int .i64 (wrap64 ((wrap64 (Int.tdiv t178 t191)) * t192)), .int .i64 (wrap64 (22 + t188))] (0, 0) _ rfl (Bh BK177) Tryd.underlying36 rfl (by kernel_rfl)) rfl ?_
 exact ⟨by first | rfl | (simp [errW_none, errW_some] <;> rfl) | (simp [*, errW_none, errW_some] <;> rfl), by repeat (first | (with_reducible first | exact HI0.out | apply IsS62.alloc | apply IsS62.drewN | apply IsS62.drew | apply IsS62.set_1 | apply IsS62.set_2 | refine IsS62.far ?_ NB0_177.out _ | refine IsS62.far ?_ NB0_184.out _) | exact HI0.out), by repeat (first | (with_reducible first | exact HB.out | apply below_alloc | apply pw_below_drewN | apply below_drew1 | refine below_set ?_ (IsS62.ge HI0.out) | refine below_set ?_ GE177.out | refine below_set ?_ GE184.out) | exact HB.out), by repeat (first | (with_reducible first | exact HK.out | apply KeepBut.set_ | apply keep_drewN | apply keep_drew | apply keep_alloc | refine keep_far ?_ GW177.out _ | refine keep_far ?_ GW184.out _) | exact HK.out)⟩
 }
 {
 have n0_ := Aside0.mk (blk_drew BK177.out)
 have n1_ := Aside0.mk (blk_drew BK184.out)
 have n2_ := Aside0.mk (IsS62.drew HI0.out)
 have n3_ := Aside0.mk (keep_drew HK.out)
 have n4_ := Aside0.mk (below_drew1 HB.out)
 clear BK177
 clear BK184
 clear HI0
 clear HK
 clear HB
 have BK177 := n0_
 have BK184 := n1_
 have HI0 := n2_
 have HK := n3_
 have HB := n4_
 clear n0_ n1_ n2_ n3_ n4_
 refine start_ (n := 12) (S := fun w' => w'.cell? ⟨gb184, 0, none⟩ = some (.int .i64 t178) ∧ w'.cell? ⟨gb184, 1, none⟩ = some (.int .i64 t181)) (ds := [11]) #[false, false, false, false, false, false, false, false, false, false, false, false] (by kernel_rfl) rfl rfl ⟨(blk_cell BK184.out 0).trans rfl, (blk_cell BK184.out 1).trans rfl⟩ (fun hHeld => ?_); refine with_tabW spec_l02Prefix.tab4 spec_l02Prefix.bits4 (fun HT_ HW_ => ?_)
 generalize w1009.drew = w1010 at BK177 BK184 HI0 HK HB hHeld ⊢
 refine pure_ (i := 0) (N := some 16) (v := ?_) (a' := ?_) #[true, false, false, false, false, false, false, false, false, false, false, false] rfl rfl (any_of HT_.out (by kernel_rfl)) (fun _ _ _ h => h) (Or.inl ⟨by rfl, ?_⟩) ?_ ?_
 rotate_left
 {
 intro w'
 go_simp
 with_reducible rfl
 }
 rotate_left
 {
 simp only [Act.put, List.setIfInBounds_toArray, List.set_cons_zero, List.set_cons_succ, i64_w, i32_w]
 rfl
 }
 refine pure_ (i := 2) (N := some 18) (v := ?_) (a' := ?_) #[true, false, true, false, false, false, false, false, false, false, false, false] rfl rfl (any_of HT_.out (by kernel_rfl)) (fun _ _ _ h => h) (Or.inl ⟨by rfl, ?_⟩) ?_ ?_
 rotate_left
 {
 intro w'
 go_simp
 with_reducible rfl
 }
 rotate_left
 {
 simp only [Act.put, List.setIfInBounds_toArray, List.set_cons_zero, List.set_cons_succ, i64_w, i32_w]
 rfl
 }
 refine pure_ (i := 6) (N := some 22) (v := ?_) (a' := ?_) #[true, false, true, false, false, false, true, false, false, false, false, false] rfl rfl (any_of HT_.out (by kernel_rfl)) (fun _ _ _ h => h) (Or.inl ⟨by rfl, ?_⟩) ?_ ?_
 rotate_left
 {
 intro w'
 go_simp
 with_reducible rfl
 }
 rotate_left
 {
 simp only [Act.put, List.setIfInBounds_toArray, List.set_cons_zero, List.set_cons_succ, i64_w, i32_w]
 rfl
 }
 refine take_ (i := 1) (N := some 17) (v := ?_) (a' := ?_) #[true, true, true, false, false, false, true, false, false, false, false, false] rfl rfl (take_ofW HT_.out HW_.out (by kernel_rfl)) (fun _ _ _ h => h) (Or.inl ⟨by rfl, ?_⟩) hHeld ?_ ?_
 rotate_left
 {
 rintro w' ⟨s0, s1⟩
 go_simp
 with_reducible rfl
 }
 rotate_left
 {
 simp only [Act.put, List.setIfInBounds_toArray, List.set_cons_zero, List.set_cons_succ, i64_w, i32_w]
 rfl
 }
 refine take_ (i := 3) (N := some 19) (v := ?_) (a' := ?_) #[true, true, true, true, false, false, true, false, false, false, false, false] rfl rfl (take_ofW HT_.out HW_.out (by kernel_rfl)) (fun _ _ _ h => h) (Or.inl ⟨by rfl, ?_⟩) hHeld ?_ ?_
 rotate_left
 {
 rintro w' ⟨s0, s1⟩
 go_simp
 with_reducible rfl
 }
 rotate_left
 {
 simp only [Act.put, List.setIfInBounds_toArray, List.set_cons_zero, List.set_cons_succ, i64_w, i32_w]
 rfl
 }
 refine take_ (i := 7) (N := some 23) (v := ?_) (a' := ?_) #[true, true, true, true, false, false, true, true, false, false, false, false] rfl rfl (take_ofW HT_.out HW_.out (by kernel_rfl)) (fun _ _ _ h => h) (Or.inl ⟨by rfl, ?_⟩) hHeld ?_ ?_
 rotate_left
 {
 rintro w' ⟨s0, s1⟩
 go_simp
 with_reducible rfl
 }
 rotate_left
 {
 simp only [Act.put, List.setIfInBounds_toArray, List.set_cons_zero, List.set_cons_succ, i64_w, i32_w]
 rfl
 }
 refine one_ (i := 4) (N := some 20) #[true, true, true, true, true, false, true, true, false, false, false, false] rfl rfl (one_of HT_.out (by kernel_rfl)) (by decide) (fun K hK => ?_)
 refine goes_ Tryd.func65 (by kernel_rfl) rfl #[.int .i64 t181] (by rfl) rfl rfl wT ?_
 with_reducible refine (spec_l02Size.calls k t181 t193 _ A10.out).mono ?_
 rintro e w' ⟨rfl, ⟨nd, rfl⟩⟩
 refine ⟨_, rfl, ?_⟩
 refine hK.out _ _ ⟨(blk_cell BK184.out 0).trans rfl, (blk_cell BK184.out 1).trans rfl⟩ (fun hHeld => ?_)
 clear hK K
 refine norm_ (a' := ?_) ?_ ?_
 rotate_left
 {
 show Act.put _ (some 20) _ = _
 simp only [Act.put, List.setIfInBounds_toArray, List.set_cons_zero, List.set_cons_succ, i64_w, i32_w]
 rfl
 }
 refine pure_ (i := 5) (N := some 21) (v := ?_) (a' := ?_) #[true, true, true, true, true, true, true, true, false, false, false, false] rfl rfl (any_of HT_.out (by kernel_rfl)) (fun _ _ _ h => h) (Or.inl ⟨by rfl, ?_⟩) ?_ ?_
 rotate_left
 {
 intro w'
 go_simp
 with_reducible rfl
 }
 rotate_left
 {
 simp only [Act.put, List.setIfInBounds_toArray, List.set_cons_zero, List.set_cons_succ, i64_w, i32_w]
 rfl
 }
 refine one_ (i := 8) (N := some 24) #[true, true, true, true, true, true, true, true, true, false, false, false] rfl rfl (one_of HT_.out (by kernel_rfl)) (by decide) (fun K hK => ?_)
 refine goes_ Tryd.func65 (by kernel_rfl) rfl #[.int .i64 t181] (by rfl) rfl rfl wT ?_
 with_reducible refine (spec_l02Size.calls k t181 t194 _ A12.out).mono ?_
 rintro e w' ⟨rfl, ⟨nd, rfl⟩⟩
 refine ⟨_, rfl, ?_⟩
 refine hK.out _ _ ⟨(blk_cell BK184.out 0).trans rfl, (blk_cell BK184.out 1).trans rfl⟩ (fun hHeld => ?_)
 clear hK K
 refine norm_ (a' := ?_) ?_ ?_
 rotate_left
 {
 show Act.put _ (some 24) _ = _
 simp only [Act.put, List.setIfInBounds_toArray, List.set_cons_zero, List.set_cons_succ, i64_w, i32_w]
 rfl
 }
 refine pure_ (i := 9) (N := some 25) (v := ?_) (a' := ?_) #[true, true, true, true, true, true, true, true, true, true, false, false] rfl rfl (any_of HT_.out (by kernel_rfl)) (fun _ _ _ h => h) (Or.inl ⟨by rfl, ?_⟩) ?_ ?_
 rotate_left
 {
 intro w'
 go_simp
 with_reducible rfl
 }
 rotate_left
 {
 simp only [Act.put, List.setIfInBounds_toArray, List.set_cons_zero, List.set_cons_succ, i64_w, i32_w]
 rfl
 }
 refine pure_ (i := 10) (N := some 26) (v := ?_) (a' := ?_) #[true, true, true, true, true, true, true, true, true, true, true, false] rfl rfl (any_of HT_.out (by kernel_rfl)) (fun _ _ _ h => h) (Or.inl ⟨by rfl, ?_⟩) ?_ ?_
 rotate_left
 {
 intro w'
 go_simp
 with_reducible rfl
 }
 rotate_left
 {
 simp only [Act.put, List.setIfInBounds_toArray, List.set_cons_zero, List.set_cons_succ, i64_w, i32_w]
 rfl
 }
 refine last_ (i := 11) (N := none) #[true, true, true, true, true, true, true, true, true, true, true, true] rfl rfl (one_of HT_.out (by kernel_rfl)) (by decide) (fun K hK => ?_)
 have hs1011 : w1010.cell? ⟨gb184, 0, none⟩ = some (.int .i64 t178) := (blk_cell BK184.out 0).trans rfl
 have hfs1011 := blk_frozen BK184.out 0
 have hns1011_0 := NB177_184.out
 have hms1011_0 := NB184_177.out
 refine skip_ (w1 := ?_) (by rfl) rfl ?_ ?_
 rotate_left
 {
 go_simp
 rfl
 }
 refine hK.out _ _ ?_
 clear hK K
 refine done_ (done_of HT_.out (by kernel_rfl)) ?_
 obtain ⟨⟨hcz1012_0, hcz1012_1⟩, hfz1012_0, hfz1012_1⟩ := cells2 BK184.out
 have hnb1013 := NB177_0.out
 have hnc1013 := NB0_177.out
 obtain ⟨⟨hcz1014_0, hcz1014_1⟩, hfz1014_0, hfz1014_1⟩ := cells2 BK177.out
 try go_wp2_with (first | ((with_reducible refine gate_store (t := 36) (p := 2) rfl ?_); (try (rw [drewN_self w1010]; generalize hq_ : World.drewN w1010 _ = w1010; have n0_ := Aside0.mk (blk_at hq_ BK177.out); have n1_ := Aside0.mk (blk_at hq_ BK184.out); have n2_ := Aside0.mk (IsS62.at_ hq_ HI0.out); have n3_ := Aside0.mk (keep_at hq_ HK.out); have n4_ := Aside0.mk (below_at hq_ HB.out); clear hq_ BK177 BK184 HI0 HK HB; have BK177 := n0_; have BK184 := n1_; have HI0 := n2_; have HK := n3_; have HB := n4_; clear n0_ n1_ n2_ n3_ n4_; (try (obtain ⟨⟨hcyBK177_0, hcyBK177_1⟩, hfyBK177_0, hfyBK177_1⟩ := cells2 BK177.out)); (try (obtain ⟨⟨hcyBK184_0, hcyBK184_1⟩, hfyBK184_0, hfyBK184_1⟩ := cells2 BK184.out)))); refine store_event (t := 36) (p := 2) (v := ?_) (w1 := (((w1010.setCell ⟨gb184, 0, none⟩ (.int .i64 (wrap64 ((wrap64 (Int.tdiv t178 t193)) * t194)))).setCell ⟨gb177, 0, none⟩ (.int .i64 (wrap64 ((wrap64 (Int.tdiv t178 t193)) * t194)))).setCell ⟨gb177, 1, none⟩ (.int .i64 t181))) ?hg ?ho ?hn ?hr ?_; (case ho => rfl); (case hg => rfl); (case hn => rfl); (case hr => first | (go_simp; done) | (go_simp; rfl)); intro w1015 hw; have n0_ : Aside0 (w1015.heap[gb177]? = some (.cells #[.int .i64 (wrap64 ((wrap64 (Int.tdiv t178 t193)) * t194)), .int .i64 t181] 36 (0, 0))) := ⟨(by rw [hw]; exact (by (with_reducible repeat (first | refine blk_drewN ?_ _ | refine blk_drew ?_ | refine blk_alloc ?_ _)); refine blk_put (cs := #[.int .i64 (wrap64 ((wrap64 (Int.tdiv t178 t193)) * t194)), .int .i64 0]) ?_ 1 _ rfl; (with_reducible repeat (first | refine blk_drewN ?_ _ | refine blk_drew ?_ | refine blk_alloc ?_ _)); refine blk_put (cs := #[.int .i64 0, .int .i64 0]) ?_ 0 _ rfl; (with_reducible repeat (first | refine blk_drewN ?_ _ | refine blk_drew ?_ | refine blk_alloc ?_ _)); refine blk_far ?_ NB177_184.out _; (with_reducible repeat (first | refine blk_drewN ?_ _ | refine blk_drew ?_ | refine blk_alloc ?_ _)); exact BK177.out))⟩; have n1_ : Aside0 (w1015.heap[gb184]? = some (.cells #[.int .i64 (wrap64 ((wrap64 (Int.tdiv t178 t193)) * t194)), .int .i64 t181] 36 (0, 0))) := ⟨(by rw [hw]; exact (by (with_reducible repeat (first | refine blk_drewN ?_ _ | refine blk_drew ?_ | refine blk_alloc ?_ _)); refine blk_far ?_ NB184_177.out _; (with_reducible repeat (first | refine blk_drewN ?_ _ | refine blk_drew ?_ | refine blk_alloc ?_ _)); refine blk_far ?_ NB184_177.out _; (with_reducible repeat (first | refine blk_drewN ?_ _ | refine blk_drew ?_ | refine blk_alloc ?_ _)); refine blk_put (cs := #[.int .i64 t178, .int .i64 t181]) ?_ 0 _ rfl; (with_reducible repeat (first | refine blk_drewN ?_ _ | refine blk_drew ?_ | refine blk_alloc ?_ _)); exact BK184.out))⟩; have n2_ : Aside0 (IsS62 w0 w1015 g s0_0 t186 t187) := ⟨(by rw [hw]; exact (by repeat (first | (with_reducible first | exact HI0.out | apply IsS62.alloc | apply IsS62.drewN | apply IsS62.drew | apply IsS62.set_1 | apply IsS62.set_2 | refine IsS62.far ?_ NB0_177.out _ | refine IsS62.far ?_ NB0_184.out _) | exact HI0.out)))⟩; have n3_ : Aside0 (KeepBut w w1015 g none) := ⟨(by rw [hw]; exact (by repeat (first | (with_reducible first | exact HK.out | apply KeepBut.set_ | apply keep_drewN | apply keep_drew | apply keep_alloc | refine keep_far ?_ GW177.out _ | refine keep_far ?_ GW184.out _) | exact HK.out)))⟩; have n4_ : Aside0 (Below w0.heap.size w0 w1015) := ⟨(by rw [hw]; exact (by repeat (first | (with_reducible first | exact HB.out | apply below_alloc | apply pw_below_drewN | apply below_drew1 | refine below_set ?_ (IsS62.ge HI0.out) | refine below_set ?_ GE177.out | refine below_set ?_ GE184.out) | exact HB.out)))⟩; clear hw; clear BK177; clear BK184; clear HI0; clear HK; clear HB; have BK177 := n0_; have BK184 := n1_; have HI0 := n2_; have HK := n3_; have HB := n4_; clear n0_ n1_ n2_ n3_ n4_))
 refine bodyPost_ret (results_cell_row rfl _ _ gb177 36 #[.int .i64 (wrap64 ((wrap64 (Int.tdiv t178 t193)) * t194)), .int .i64 t181] (0, 0) _ rfl (Bh BK177) Tryd.underlying36 rfl (by kernel_rfl)) rfl ?_
 exact ⟨by first | rfl | (simp [errW_none, errW_some] <;> rfl) | (simp [*, errW_none, errW_some] <;> rfl), by repeat (first | (with_reducible first | exact HI0.out | apply IsS62.alloc | apply IsS62.drewN | apply IsS62.drew | apply IsS62.set_1 | apply IsS62.set_2 | refine IsS62.far ?_ NB0_177.out _ | refine IsS62.far ?_ NB0_184.out _) | exact HI0.out), by repeat (first | (with_reducible first | exact HB.out | apply below_alloc | apply pw_below_drewN | apply below_drew1 | refine below_set ?_ (IsS62.ge HI0.out) | refine below_set ?_ GE177.out | refine below_set ?_ GE184.out) | exact HB.out), by repeat (first | (with_reducible first | exact HK.out | apply KeepBut.set_ | apply keep_drewN | apply keep_drew | apply keep_alloc | refine keep_far ?_ GW177.out _ | refine keep_far ?_ GW184.out _) | exact HK.out)⟩
 }

/-! ### spec_l02Bend: function 42 -/
def spec_l02Bend.f (s0_0 : List Int) (s0_1 : Int) (s0_2 : Int) (a1 : ByteArray) (a2 : Int) : Option (ByteArray × Int × Int) := (spec_l01Next.f s0_0 s0_1 s0_2 a2).bind fun bt195 => (if bt195.1 > 0 then (some (a1, bt195.2.1, bt195.2.2)) else ((spec_l01Next.f s0_0 bt195.2.1 bt195.2.2 (wrap64 ((a1.size : Int) + 1))).bind fun bt198 => ((spec_l01Next.f s0_0 bt198.2.1 bt198.2.2 12).bind fun bt201 => ((spec_l01Next.f s0_0 bt201.2.1 bt201.2.2 3).bind fun bt204 => (if bt204.1 = 0 then (if 0 ≤ bt198.1 then (if bt198.1 ≤ (a1.size : Int) then (some (a1.extract 0 (bt198.1 : Int).toNat, bt204.2.1, bt204.2.2)) else (none)) else (none)) else (if bt204.1 = 1 then (if 0 ≤ bt198.1 then (if bt198.1 ≤ (a1.size : Int) then (if 0 ≤ bt201.1 then (if bt201.1 ≤ (wrap64 (bt201.1 + 1)) then (if (wrap64 (bt201.1 + 1)) ≤ 12 then (if (a1.extract 0 (bt198.1 : Int).toNat).size + ((⟨#[46, 58, 47, 48, 49, 50, 57, 97, 71, 32, 45, 10]⟩ : ByteArray).extract (bt201.1 : Int).toNat ((wrap64 (bt201.1 + 1)) : Int).toNat).size ≤ 9223372036854775807 then (if ((a1.extract 0 (bt198.1 : Int).toNat) ++ ((⟨#[46, 58, 47, 48, 49, 50, 57, 97, 71, 32, 45, 10]⟩ : ByteArray).extract (bt201.1 : Int).toNat ((wrap64 (bt201.1 + 1)) : Int).toNat)).size + (a1.extract (bt198.1 : Int).toNat a1.size).size ≤ 9223372036854775807 then (some (((a1.extract 0 (bt198.1 : Int).toNat) ++ ((⟨#[46, 58, 47, 48, 49, 50, 57, 97, 71, 32, 45, 10]⟩ : ByteArray).extract (bt201.1 : Int).toNat ((wrap64 (bt201.1 + 1)) : Int).toNat)) ++ (a1.extract (bt198.1 : Int).toNat a1.size), bt204.2.1, bt204.2.2)) else (none)) else (none)) else (none)) else (none)) else (none)) else (none)) else (none)) else (if bt198.1 < (a1.size : Int) then (if 0 ≤ bt198.1 then (if bt198.1 ≤ (a1.size : Int) then (if 0 ≤ bt201.1 then (if bt201.1 ≤ (wrap64 (bt201.1 + 1)) then (if (wrap64 (bt201.1 + 1)) ≤ 12 then (if (a1.extract 0 (bt198.1 : Int).toNat).size + ((⟨#[46, 58, 47, 48, 49, 50, 57, 97, 71, 32, 45, 10]⟩ : ByteArray).extract (bt201.1 : Int).toNat ((wrap64 (bt201.1 + 1)) : Int).toNat).size ≤ 9223372036854775807 then (if 0 ≤ (wrap64 (bt198.1 + 1)) then (if (wrap64 (bt198.1 + 1)) ≤ (a1.size : Int) then (if ((a1.extract 0 (bt198.1 : Int).toNat) ++ ((⟨#[46, 58, 47, 48, 49, 50, 57, 97, 71, 32, 45, 10]⟩ : ByteArray).extract (bt201.1 : Int).toNat ((wrap64 (bt201.1 + 1)) : Int).toNat)).size + (a1.extract ((wrap64 (bt198.1 + 1)) : Int).toNat a1.size).size ≤ 9223372036854775807 then (some (((a1.extract 0 (bt198.1 : Int).toNat) ++ ((⟨#[46, 58, 47, 48, 49, 50, 57, 97, 71, 32, 45, 10]⟩ : ByteArray).extract (bt201.1 : Int).toNat ((wrap64 (bt201.1 + 1)) : Int).toNat)) ++ (a1.extract ((wrap64 (bt198.1 + 1)) : Int).toNat a1.size), bt204.2.1, bt204.2.2)) else (none)) else (none)) else (none)) else (none)) else (none)) else (none)) else (none)) else (none)) else (none)) else (some (a1, bt204.2.1, bt204.2.2)))))))))
set_option maxHeartbeats 60000000 in
set_option maxRecDepth 100000 in
theorem spec_l02Bend.calls (g : Nat) (s0_0 : List Int) (s0_1 : Int) (s0_2 : Int) (a1 : ByteArray) (a2 : Int) (r1 : ByteArray) (r2 : Int) (r3 : Int) (w0 w : World) (hI : IsS62 w0 w g s0_0 s0_1 s0_2) (hB : Below w0.heap.size w0 w) (h : spec_l02Bend.f s0_0 s0_1 s0_2 a1 a2 = some (r1, r2, r3)) :
 Calls Tryd.prog 42 #[.pointer (some ⟨g, 0, none⟩), .string a1, .int .i64 a2] w fun e w' => e = .returned (.string r1) ∧ IsS62 w0 w' g s0_0 r2 r3 ∧ Below w0.heap.size w0 w' ∧ KeepBut w w' g none := by
 have HI0 := Aside0.mk hI
 have HK := Aside0.mk (KeepBut.refl w g none)
 have HL := Aside0.mk hB.size
 clear hI
 have HW0 := Aside0.mk hB.size
 have HB := Aside0.mk hB
 clear hB
 have H : ((spec_l01Next.f s0_0 s0_1 s0_2 a2).bind fun bt195 => (if bt195.1 > 0 then (some (a1, bt195.2.1, bt195.2.2)) else ((spec_l01Next.f s0_0 bt195.2.1 bt195.2.2 (wrap64 ((a1.size : Int) + 1))).bind fun bt198 => ((spec_l01Next.f s0_0 bt198.2.1 bt198.2.2 12).bind fun bt201 => ((spec_l01Next.f s0_0 bt201.2.1 bt201.2.2 3).bind fun bt204 => (if bt204.1 = 0 then (if 0 ≤ bt198.1 then (if bt198.1 ≤ (a1.size : Int) then (some (a1.extract 0 (bt198.1 : Int).toNat, bt204.2.1, bt204.2.2)) else (none)) else (none)) else (if bt204.1 = 1 then (if 0 ≤ bt198.1 then (if bt198.1 ≤ (a1.size : Int) then (if 0 ≤ bt201.1 then (if bt201.1 ≤ (wrap64 (bt201.1 + 1)) then (if (wrap64 (bt201.1 + 1)) ≤ 12 then (if (a1.extract 0 (bt198.1 : Int).toNat).size + ((⟨#[46, 58, 47, 48, 49, 50, 57, 97, 71, 32, 45, 10]⟩ : ByteArray).extract (bt201.1 : Int).toNat ((wrap64 (bt201.1 + 1)) : Int).toNat).size ≤ 9223372036854775807 then (if ((a1.extract 0 (bt198.1 : Int).toNat) ++ ((⟨#[46, 58, 47, 48, 49, 50, 57, 97, 71, 32, 45, 10]⟩ : ByteArray).extract (bt201.1 : Int).toNat ((wrap64 (bt201.1 + 1)) : Int).toNat)).size + (a1.extract (bt198.1 : Int).toNat a1.size).size ≤ 9223372036854775807 then (some (((a1.extract 0 (bt198.1 : Int).toNat) ++ ((⟨#[46, 58, 47, 48, 49, 50, 57, 97, 71, 32, 45, 10]⟩ : ByteArray).extract (bt201.1 : Int).toNat ((wrap64 (bt201.1 + 1)) : Int).toNat)) ++ (a1.extract (bt198.1 : Int).toNat a1.size), bt204.2.1, bt204.2.2)) else (none)) else (none)) else (none)) else (none)) else (none)) else (none)) else (none)) else (if bt198.1 < (a1.size : Int) then (if 0 ≤ bt198.1 then (if bt198.1 ≤ (a1.size : Int) then (if 0 ≤ bt201.1 then (if bt201.1 ≤ (wrap64 (bt201.1 + 1)) then (if (wrap64 (bt201.1 + 1)) ≤ 12 then (if (a1.extract 0 (bt198.1 : Int).toNat).size + ((⟨#[46, 58, 47, 48, 49, 50, 57, 97, 71, 32, 45, 10]⟩ : ByteArray).extract (bt201.1 : Int).toNat ((wrap64 (bt201.1 + 1)) : Int).toNat).size ≤ 9223372036854775807 then (if 0 ≤ (wrap64 (bt198.1 + 1)) then (if (wrap64 (bt198.1 + 1)) ≤ (a1.size : Int) then (if ((a1.extract 0 (bt198.1 : Int).toNat) ++ ((⟨#[46, 58, 47, 48, 49, 50, 57, 97, 71, 32, 45, 10]⟩ : ByteArray).extract (bt201.1 : Int).toNat ((wrap64 (bt201.1 + 1)) : Int).toNat)).size + (a1.extract ((wrap64 (bt198.1 + 1)) : Int).toNat a1.size).size ≤ 9223372036854775807 then (some (((a1.extract 0 (bt198.1 : Int).toNat) ++ ((⟨#[46, 58, 47, 48, 49, 50, 57, 97, 71, 32, 45, 10]⟩ : ByteArray).extract (bt201.1 : Int).toNat ((wrap64 (bt201.1 + 1)) : Int).toNat)) ++ (a1.extract ((wrap64 (bt198.1 + 1)) : Int).toNat a1.size), bt204.2.1, bt204.2.2)) else (none)) else (none)) else (none)) else (none)) else (none)) else (none)) else (none)) else (none)) else (none)) else (some (a1, bt204.2.1, bt204.2.2)))))))))) = some (r1, r2, r3) := h
 clear h
 replace H := Option.bind_eq_some_iff.mp H
 obtain ⟨⟨t195, t196, t197⟩, A40, H⟩ := H
 replace H : (if t195 > 0 then (some (a1, t196, t197)) else ((spec_l01Next.f s0_0 t196 t197 (wrap64 ((a1.size : Int) + 1))).bind fun bt198 => ((spec_l01Next.f s0_0 bt198.2.1 bt198.2.2 12).bind fun bt201 => ((spec_l01Next.f s0_0 bt201.2.1 bt201.2.2 3).bind fun bt204 => (if bt204.1 = 0 then (if 0 ≤ bt198.1 then (if bt198.1 ≤ (a1.size : Int) then (some (a1.extract 0 (bt198.1 : Int).toNat, bt204.2.1, bt204.2.2)) else (none)) else (none)) else (if bt204.1 = 1 then (if 0 ≤ bt198.1 then (if bt198.1 ≤ (a1.size : Int) then (if 0 ≤ bt201.1 then (if bt201.1 ≤ (wrap64 (bt201.1 + 1)) then (if (wrap64 (bt201.1 + 1)) ≤ 12 then (if (a1.extract 0 (bt198.1 : Int).toNat).size + ((⟨#[46, 58, 47, 48, 49, 50, 57, 97, 71, 32, 45, 10]⟩ : ByteArray).extract (bt201.1 : Int).toNat ((wrap64 (bt201.1 + 1)) : Int).toNat).size ≤ 9223372036854775807 then (if ((a1.extract 0 (bt198.1 : Int).toNat) ++ ((⟨#[46, 58, 47, 48, 49, 50, 57, 97, 71, 32, 45, 10]⟩ : ByteArray).extract (bt201.1 : Int).toNat ((wrap64 (bt201.1 + 1)) : Int).toNat)).size + (a1.extract (bt198.1 : Int).toNat a1.size).size ≤ 9223372036854775807 then (some (((a1.extract 0 (bt198.1 : Int).toNat) ++ ((⟨#[46, 58, 47, 48, 49, 50, 57, 97, 71, 32, 45, 10]⟩ : ByteArray).extract (bt201.1 : Int).toNat ((wrap64 (bt201.1 + 1)) : Int).toNat)) ++ (a1.extract (bt198.1 : Int).toNat a1.size), bt204.2.1, bt204.2.2)) else (none)) else (none)) else (none)) else (none)) else (none)) else (none)) else (none)) else (if bt198.1 < (a1.size : Int) then (if 0 ≤ bt198.1 then (if bt198.1 ≤ (a1.size : Int) then (if 0 ≤ bt201.1 then (if bt201.1 ≤ (wrap64 (bt201.1 + 1)) then (if (wrap64 (bt201.1 + 1)) ≤ 12 then (if (a1.extract 0 (bt198.1 : Int).toNat).size + ((⟨#[46, 58, 47, 48, 49, 50, 57, 97, 71, 32, 45, 10]⟩ : ByteArray).extract (bt201.1 : Int).toNat ((wrap64 (bt201.1 + 1)) : Int).toNat).size ≤ 9223372036854775807 then (if 0 ≤ (wrap64 (bt198.1 + 1)) then (if (wrap64 (bt198.1 + 1)) ≤ (a1.size : Int) then (if ((a1.extract 0 (bt198.1 : Int).toNat) ++ ((⟨#[46, 58, 47, 48, 49, 50, 57, 97, 71, 32, 45, 10]⟩ : ByteArray).extract (bt201.1 : Int).toNat ((wrap64 (bt201.1 + 1)) : Int).toNat)).size + (a1.extract ((wrap64 (bt198.1 + 1)) : Int).toNat a1.size).size ≤ 9223372036854775807 then (some (((a1.extract 0 (bt198.1 : Int).toNat) ++ ((⟨#[46, 58, 47, 48, 49, 50, 57, 97, 71, 32, 45, 10]⟩ : ByteArray).extract (bt201.1 : Int).toNat ((wrap64 (bt201.1 + 1)) : Int).toNat)) ++ (a1.extract ((wrap64 (bt198.1 + 1)) : Int).toNat a1.size), bt204.2.1, bt204.2.2)) else (none)) else (none)) else (none)) else (none)) else (none)) else (none)) else (none)) else (none)) else (none)) else (some (a1, bt204.2.1, bt204.2.2))))))))) = some (r1, r2, r3) := H
 have A4 := Aside0.mk A40
 clear A40
 by_cases c5 : t195 > 0
 rw [if_pos c5] at H
 have c5b0 : decide (0 < t195) = true := decide_eq_true c5
 clear c5
 simp only [Option.some.injEq, Prod.mk.injEq] at H
 obtain ⟨rfl, rfl, rfl⟩ := H
 rotate_left
 rw [if_neg c5] at H
 have c5b0 : decide (0 < t195) = false := decide_eq_false c5
 clear c5
 replace H := Option.bind_eq_some_iff.mp H
 obtain ⟨⟨t198, t199, t200⟩, A60, H⟩ := H
 replace H : ((spec_l01Next.f s0_0 t199 t200 12).bind fun bt201 => ((spec_l01Next.f s0_0 bt201.2.1 bt201.2.2 3).bind fun bt204 => (if bt204.1 = 0 then (if 0 ≤ t198 then (if t198 ≤ (a1.size : Int) then (some (a1.extract 0 (t198 : Int).toNat, bt204.2.1, bt204.2.2)) else (none)) else (none)) else (if bt204.1 = 1 then (if 0 ≤ t198 then (if t198 ≤ (a1.size : Int) then (if 0 ≤ bt201.1 then (if bt201.1 ≤ (wrap64 (bt201.1 + 1)) then (if (wrap64 (bt201.1 + 1)) ≤ 12 then (if (a1.extract 0 (t198 : Int).toNat).size + ((⟨#[46, 58, 47, 48, 49, 50, 57, 97, 71, 32, 45, 10]⟩ : ByteArray).extract (bt201.1 : Int).toNat ((wrap64 (bt201.1 + 1)) : Int).toNat).size ≤ 9223372036854775807 then (if ((a1.extract 0 (t198 : Int).toNat) ++ ((⟨#[46, 58, 47, 48, 49, 50, 57, 97, 71, 32, 45, 10]⟩ : ByteArray).extract (bt201.1 : Int).toNat ((wrap64 (bt201.1 + 1)) : Int).toNat)).size + (a1.extract (t198 : Int).toNat a1.size).size ≤ 9223372036854775807 then (some (((a1.extract 0 (t198 : Int).toNat) ++ ((⟨#[46, 58, 47, 48, 49, 50, 57, 97, 71, 32, 45, 10]⟩ : ByteArray).extract (bt201.1 : Int).toNat ((wrap64 (bt201.1 + 1)) : Int).toNat)) ++ (a1.extract (t198 : Int).toNat a1.size), bt204.2.1, bt204.2.2)) else (none)) else (none)) else (none)) else (none)) else (none)) else (none)) else (none)) else (if t198 < (a1.size : Int) then (if 0 ≤ t198 then (if t198 ≤ (a1.size : Int) then (if 0 ≤ bt201.1 then (if bt201.1 ≤ (wrap64 (bt201.1 + 1)) then (if (wrap64 (bt201.1 + 1)) ≤ 12 then (if (a1.extract 0 (t198 : Int).toNat).size + ((⟨#[46, 58, 47, 48, 49, 50, 57, 97, 71, 32, 45, 10]⟩ : ByteArray).extract (bt201.1 : Int).toNat ((wrap64 (bt201.1 + 1)) : Int).toNat).size ≤ 9223372036854775807 then (if 0 ≤ (wrap64 (t198 + 1)) then (if (wrap64 (t198 + 1)) ≤ (a1.size : Int) then (if ((a1.extract 0 (t198 : Int).toNat) ++ ((⟨#[46, 58, 47, 48, 49, 50, 57, 97, 71, 32, 45, 10]⟩ : ByteArray).extract (bt201.1 : Int).toNat ((wrap64 (bt201.1 + 1)) : Int).toNat)).size + (a1.extract ((wrap64 (t198 + 1)) : Int).toNat a1.size).size ≤ 9223372036854775807 then (some (((a1.extract 0 (t198 : Int).toNat) ++ ((⟨#[46, 58, 47, 48, 49, 50, 57, 97, 71, 32, 45, 10]⟩ : ByteArray).extract (bt201.1 : Int).toNat ((wrap64 (bt201.1 + 1)) : Int).toNat)) ++ (a1.extract ((wrap64 (t198 + 1)) : Int).toNat a1.size), bt204.2.1, bt204.2.2)) else (none)) else (none)) else (none)) else (none)) else (none)) else (none)) else (none)) else (none)) else (none)) else (some (a1, bt204.2.1, bt204.2.2))))))) = some (r1, r2, r3) := H
 have A6 := Aside0.mk A60
 clear A60
 replace H := Option.bind_eq_some_iff.mp H
 obtain ⟨⟨t201, t202, t203⟩, A70, H⟩ := H
 replace H : ((spec_l01Next.f s0_0 t202 t203 3).bind fun bt204 => (if bt204.1 = 0 then (if 0 ≤ t198 then (if t198 ≤ (a1.size : Int) then (some (a1.extract 0 (t198 : Int).toNat, bt204.2.1, bt204.2.2)) else (none)) else (none)) else (if bt204.1 = 1 then (if 0 ≤ t198 then (if t198 ≤ (a1.size : Int) then (if 0 ≤ t201 then (if t201 ≤ (wrap64 (t201 + 1)) then (if (wrap64 (t201 + 1)) ≤ 12 then (if (a1.extract 0 (t198 : Int).toNat).size + ((⟨#[46, 58, 47, 48, 49, 50, 57, 97, 71, 32, 45, 10]⟩ : ByteArray).extract (t201 : Int).toNat ((wrap64 (t201 + 1)) : Int).toNat).size ≤ 9223372036854775807 then (if ((a1.extract 0 (t198 : Int).toNat) ++ ((⟨#[46, 58, 47, 48, 49, 50, 57, 97, 71, 32, 45, 10]⟩ : ByteArray).extract (t201 : Int).toNat ((wrap64 (t201 + 1)) : Int).toNat)).size + (a1.extract (t198 : Int).toNat a1.size).size ≤ 9223372036854775807 then (some (((a1.extract 0 (t198 : Int).toNat) ++ ((⟨#[46, 58, 47, 48, 49, 50, 57, 97, 71, 32, 45, 10]⟩ : ByteArray).extract (t201 : Int).toNat ((wrap64 (t201 + 1)) : Int).toNat)) ++ (a1.extract (t198 : Int).toNat a1.size), bt204.2.1, bt204.2.2)) else (none)) else (none)) else (none)) else (none)) else (none)) else (none)) else (none)) else (if t198 < (a1.size : Int) then (if 0 ≤ t198 then (if t198 ≤ (a1.size : Int) then (if 0 ≤ t201 then (if t201 ≤ (wrap64 (t201 + 1)) then (if (wrap64 (t201 + 1)) ≤ 12 then (if (a1.extract 0 (t198 : Int).toNat).size + ((⟨#[46, 58, 47, 48, 49, 50, 57, 97, 71, 32, 45, 10]⟩ : ByteArray).extract (t201 : Int).toNat ((wrap64 (t201 + 1)) : Int).toNat).size ≤ 9223372036854775807 then (if 0 ≤ (wrap64 (t198 + 1)) then (if (wrap64 (t198 + 1)) ≤ (a1.size : Int) then (if ((a1.extract 0 (t198 : Int).toNat) ++ ((⟨#[46, 58, 47, 48, 49, 50, 57, 97, 71, 32, 45, 10]⟩ : ByteArray).extract (t201 : Int).toNat ((wrap64 (t201 + 1)) : Int).toNat)).size + (a1.extract ((wrap64 (t198 + 1)) : Int).toNat a1.size).size ≤ 9223372036854775807 then (some (((a1.extract 0 (t198 : Int).toNat) ++ ((⟨#[46, 58, 47, 48, 49, 50, 57, 97, 71, 32, 45, 10]⟩ : ByteArray).extract (t201 : Int).toNat ((wrap64 (t201 + 1)) : Int).toNat)) ++ (a1.extract ((wrap64 (t198 + 1)) : Int).toNat a1.size), bt204.2.1, bt204.2.2)) else (none)) else (none)) else (none)) else (none)) else (none)) else (none)) else (none)) else (none)) else (none)) else (some (a1, bt204.2.1, bt204.2.2)))))) = some (r1, r2, r3) := H
 have A7 := Aside0.mk A70
 clear A70
 replace H := Option.bind_eq_some_iff.mp H
 obtain ⟨⟨t204, t205, t206⟩, A80, H⟩ := H
 replace H : (if t204 = 0 then (if 0 ≤ t198 then (if t198 ≤ (a1.size : Int) then (some (a1.extract 0 (t198 : Int).toNat, t205, t206)) else (none)) else (none)) else (if t204 = 1 then (if 0 ≤ t198 then (if t198 ≤ (a1.size : Int) then (if 0 ≤ t201 then (if t201 ≤ (wrap64 (t201 + 1)) then (if (wrap64 (t201 + 1)) ≤ 12 then (if (a1.extract 0 (t198 : Int).toNat).size + ((⟨#[46, 58, 47, 48, 49, 50, 57, 97, 71, 32, 45, 10]⟩ : ByteArray).extract (t201 : Int).toNat ((wrap64 (t201 + 1)) : Int).toNat).size ≤ 9223372036854775807 then (if ((a1.extract 0 (t198 : Int).toNat) ++ ((⟨#[46, 58, 47, 48, 49, 50, 57, 97, 71, 32, 45, 10]⟩ : ByteArray).extract (t201 : Int).toNat ((wrap64 (t201 + 1)) : Int).toNat)).size + (a1.extract (t198 : Int).toNat a1.size).size ≤ 9223372036854775807 then (some (((a1.extract 0 (t198 : Int).toNat) ++ ((⟨#[46, 58, 47, 48, 49, 50, 57, 97, 71, 32, 45, 10]⟩ : ByteArray).extract (t201 : Int).toNat ((wrap64 (t201 + 1)) : Int).toNat)) ++ (a1.extract (t198 : Int).toNat a1.size), t205, t206)) else (none)) else (none)) else (none)) else (none)) else (none)) else (none)) else (none)) else (if t198 < (a1.size : Int) then (if 0 ≤ t198 then (if t198 ≤ (a1.size : Int) then (if 0 ≤ t201 then (if t201 ≤ (wrap64 (t201 + 1)) then (if (wrap64 (t201 + 1)) ≤ 12 then (if (a1.extract 0 (t198 : Int).toNat).size + ((⟨#[46, 58, 47, 48, 49, 50, 57, 97, 71, 32, 45, 10]⟩ : ByteArray).extract (t201 : Int).toNat ((wrap64 (t201 + 1)) : Int).toNat).size ≤ 9223372036854775807 then (if 0 ≤ (wrap64 (t198 + 1)) then (if (wrap64 (t198 + 1)) ≤ (a1.size : Int) then (if ((a1.extract 0 (t198 : Int).toNat) ++ ((⟨#[46, 58, 47, 48, 49, 50, 57, 97, 71, 32, 45, 10]⟩ : ByteArray).extract (t201 : Int).toNat ((wrap64 (t201 + 1)) : Int).toNat)).size + (a1.extract ((wrap64 (t198 + 1)) : Int).toNat a1.size).size ≤ 9223372036854775807 then (some (((a1.extract 0 (t198 : Int).toNat) ++ ((⟨#[46, 58, 47, 48, 49, 50, 57, 97, 71, 32, 45, 10]⟩ : ByteArray).extract (t201 : Int).toNat ((wrap64 (t201 + 1)) : Int).toNat)) ++ (a1.extract ((wrap64 (t198 + 1)) : Int).toNat a1.size), t205, t206)) else (none)) else (none)) else (none)) else (none)) else (none)) else (none)) else (none)) else (none)) else (none)) else (some (a1, t205, t206))))) = some (r1, r2, r3) := H
 have A8 := Aside0.mk A80
 clear A80
 by_cases c9 : t204 = 0
 rw [if_pos c9] at H
 have c9b0 : (t204 == 0) = true := beq_iff_eq.mpr c9
 have c9b1 : (t204 != 0) = false := bne_eq_false_iff_eq.mpr c9
 clear c9
 by_cases c10 : 0 ≤ t198
 rw [if_pos c10] at H
 have c10b0 := eq_true c10
 have c10b1 : decide (0 ≤ t198) = true := decide_eq_true c10
 clear c10
 by_cases c11 : t198 ≤ (a1.size : Int)
 rw [if_pos c11] at H
 have c11b0 := eq_true c11
 have c11b1 : decide (t198 ≤ (a1.size : Int)) = true := decide_eq_true c11
 clear c11
 simp only [Option.some.injEq, Prod.mk.injEq] at H
 obtain ⟨rfl, rfl, rfl⟩ := H
 rotate_left
 rw [if_neg c11] at H
 exact absurd H (by simp)
 rw [if_neg c10] at H
 exact absurd H (by simp)
 rw [if_neg c9] at H
 have c9b0 : (t204 == 0) = false := beq_eq_false_iff_ne.mpr c9
 have c9b1 : (t204 != 0) = true := bne_iff_ne.mpr c9
 by_cases c12 : t204 = 1
 rw [if_pos c12] at H
 have c12b0 : (t204 == 1) = true := beq_iff_eq.mpr c12
 have c12b1 : (t204 != 1) = false := bne_eq_false_iff_eq.mpr c12
 clear c12
 by_cases c13 : 0 ≤ t198
 rw [if_pos c13] at H
 have c13b0 := eq_true c13
 have c13b1 : decide (0 ≤ t198) = true := decide_eq_true c13
 clear c13
 by_cases c14 : t198 ≤ (a1.size : Int)
 rw [if_pos c14] at H
 have c14b0 := eq_true c14
 have c14b1 : decide (t198 ≤ (a1.size : Int)) = true := decide_eq_true c14
 clear c14
 by_cases c15 : 0 ≤ t201
 rw [if_pos c15] at H
 have c15b0 := eq_true c15
 have c15b1 : decide (0 ≤ t201) = true := decide_eq_true c15
 clear c15
 by_cases c16 : t201 ≤ (wrap64 (t201 + 1))
 rw [if_pos c16] at H
 have c16b0 := eq_true c16
 have c16b1 : decide (t201 ≤ (wrap64 (t201 + 1))) = true := decide_eq_true c16
 (try (have c16bw0 := c16b0; simp only [← i64_w] at c16bw0))
 (try (have c16bw1 := c16b1; simp only [← i64_w] at c16bw1))
 (try (have c16bw2 := c16b2; simp only [← i64_w] at c16bw2))
 by_cases c17 : (wrap64 (t201 + 1)) ≤ 12
 rw [if_pos c17] at H
 have c17b0 := eq_true c17
 have c17b1 : decide ((wrap64 (t201 + 1)) ≤ 12) = true := decide_eq_true c17
 (try (have c17bw0 := c17b0; simp only [← i64_w] at c17bw0))
 (try (have c17bw1 := c17b1; simp only [← i64_w] at c17bw1))
 (try (have c17bw2 := c17b2; simp only [← i64_w] at c17bw2))
 by_cases c18 : (a1.extract 0 (t198 : Int).toNat).size + ((⟨#[46, 58, 47, 48, 49, 50, 57, 97, 71, 32, 45, 10]⟩ : ByteArray).extract (t201 : Int).toNat ((wrap64 (t201 + 1)) : Int).toNat).size ≤ 9223372036854775807
 rw [if_pos c18] at H
 have c18b0 := eq_true c18
 have c18b1 : decide ((a1.extract 0 (t198 : Int).toNat).size + ((⟨#[46, 58, 47, 48, 49, 50, 57, 97, 71, 32, 45, 10]⟩ : ByteArray).extract (t201 : Int).toNat ((wrap64 (t201 + 1)) : Int).toNat).size ≤ 9223372036854775807) = true := decide_eq_true c18
 try have c18b2 : (9223372036854775807 < (a1.extract 0 (t198 : Int).toNat).size + ((⟨#[46, 58, 47, 48, 49, 50, 57, 97, 71, 32, 45, 10]⟩ : ByteArray).extract (t201 : Int).toNat ((wrap64 (t201 + 1)) : Int).toNat).size) = False := eq_false (Nat.not_lt.2 c18)
 (try (have c18bx2 := c18b2; simp only [ByteArray.size_append, ByteArray.size_extract] at c18bx2; simp only [← i64_w] at c18bx2))
 (try (have c18bw0 := c18b0; simp only [← i64_w] at c18bw0))
 (try (have c18bz0 := c18b0; simp only [← i64_w, show ((⟨#[46, 58, 47, 48, 49, 50, 57, 97, 71, 32, 45, 10]⟩ : ByteArray).size : Int) = 12 from rfl] at c18bz0))
 (try (have c18bw1 := c18b1; simp only [← i64_w] at c18bw1))
 (try (have c18bz1 := c18b1; simp only [← i64_w, show ((⟨#[46, 58, 47, 48, 49, 50, 57, 97, 71, 32, 45, 10]⟩ : ByteArray).size : Int) = 12 from rfl] at c18bz1))
 (try (have c18bw2 := c18b2; simp only [← i64_w] at c18bw2))
 have c19b0 := eq_true (of_decide_eq_true (by first | (with_reducible assumption) | assumption) : 0 ≤ t198)
 have c20b0 := eq_true (of_decide_eq_true (by first | (with_reducible assumption) | assumption) : t198 ≤ (a1.size : Int))
 by_cases c21 : ((a1.extract 0 (t198 : Int).toNat) ++ ((⟨#[46, 58, 47, 48, 49, 50, 57, 97, 71, 32, 45, 10]⟩ : ByteArray).extract (t201 : Int).toNat ((wrap64 (t201 + 1)) : Int).toNat)).size + (a1.extract (t198 : Int).toNat a1.size).size ≤ 9223372036854775807
 rw [if_pos c21] at H
 have c21b0 := eq_true c21
 have c21b1 : decide (((a1.extract 0 (t198 : Int).toNat) ++ ((⟨#[46, 58, 47, 48, 49, 50, 57, 97, 71, 32, 45, 10]⟩ : ByteArray).extract (t201 : Int).toNat ((wrap64 (t201 + 1)) : Int).toNat)).size + (a1.extract (t198 : Int).toNat a1.size).size ≤ 9223372036854775807) = true := decide_eq_true c21
 try have c21b2 : (9223372036854775807 < ((a1.extract 0 (t198 : Int).toNat) ++ ((⟨#[46, 58, 47, 48, 49, 50, 57, 97, 71, 32, 45, 10]⟩ : ByteArray).extract (t201 : Int).toNat ((wrap64 (t201 + 1)) : Int).toNat)).size + (a1.extract (t198 : Int).toNat a1.size).size) = False := eq_false (Nat.not_lt.2 c21)
 (try (have c21b5 := c21b2; simp only [ByteArray.size_append, show (⟨#[46, 58, 47, 48, 49, 50, 57, 97, 71, 32, 45, 10]⟩ : ByteArray).size = 12 from rfl] at c21b5))
 (try (have c21bx2 := c21b2; simp only [ByteArray.size_append, ByteArray.size_extract] at c21bx2; simp only [← i64_w] at c21bx2))
 (try (have c21bw0 := c21b0; simp only [← i64_w] at c21bw0))
 (try (have c21bz0 := c21b0; simp only [← i64_w, show ((⟨#[46, 58, 47, 48, 49, 50, 57, 97, 71, 32, 45, 10]⟩ : ByteArray).size : Int) = 12 from rfl] at c21bz0))
 (try (have c21bw1 := c21b1; simp only [← i64_w] at c21bw1))
 (try (have c21bz1 := c21b1; simp only [← i64_w, show ((⟨#[46, 58, 47, 48, 49, 50, 57, 97, 71, 32, 45, 10]⟩ : ByteArray).size : Int) = 12 from rfl] at c21bz1))
 (try (have c21bw2 := c21b2; simp only [← i64_w] at c21bw2))
 simp only [Option.some.injEq, Prod.mk.injEq] at H
 obtain ⟨rfl, rfl, rfl⟩ := H
 rotate_left
 rw [if_neg c21] at H
 exact absurd H (by simp)
 rw [if_neg c18] at H
 exact absurd H (by simp)
 rw [if_neg c17] at H
 exact absurd H (by simp)
 rw [if_neg c16] at H
 exact absurd H (by simp)
 rw [if_neg c15] at H
 exact absurd H (by simp)
 rw [if_neg c14] at H
 exact absurd H (by simp)
 rw [if_neg c13] at H
 exact absurd H (by simp)
 rw [if_neg c12] at H
 have c12b0 : (t204 == 1) = false := beq_eq_false_iff_ne.mpr c12
 have c12b1 : (t204 != 1) = true := bne_iff_ne.mpr c12
 by_cases c22 : t198 < (a1.size : Int)
 rw [if_pos c22] at H
 have c22b0 : decide (t198 < (a1.size : Int)) = true := decide_eq_true c22
 clear c22
 by_cases c23 : 0 ≤ t198
 rw [if_pos c23] at H
 have c23b0 := eq_true c23
 have c23b1 : decide (0 ≤ t198) = true := decide_eq_true c23
 clear c23
 by_cases c24 : t198 ≤ (a1.size : Int)
 rw [if_pos c24] at H
 have c24b0 := eq_true c24
 have c24b1 : decide (t198 ≤ (a1.size : Int)) = true := decide_eq_true c24
 clear c24
 by_cases c25 : 0 ≤ t201
 rw [if_pos c25] at H
 have c25b0 := eq_true c25
 have c25b1 : decide (0 ≤ t201) = true := decide_eq_true c25
 clear c25
 by_cases c26 : t201 ≤ (wrap64 (t201 + 1))
 rw [if_pos c26] at H
 have c26b0 := eq_true c26
 have c26b1 : decide (t201 ≤ (wrap64 (t201 + 1))) = true := decide_eq_true c26
 (try (have c26bw0 := c26b0; simp only [← i64_w] at c26bw0))
 (try (have c26bw1 := c26b1; simp only [← i64_w] at c26bw1))
 (try (have c26bw2 := c26b2; simp only [← i64_w] at c26bw2))
 by_cases c27 : (wrap64 (t201 + 1)) ≤ 12
 rw [if_pos c27] at H
 have c27b0 := eq_true c27
 have c27b1 : decide ((wrap64 (t201 + 1)) ≤ 12) = true := decide_eq_true c27
 (try (have c27bw0 := c27b0; simp only [← i64_w] at c27bw0))
 (try (have c27bw1 := c27b1; simp only [← i64_w] at c27bw1))
 (try (have c27bw2 := c27b2; simp only [← i64_w] at c27bw2))
 by_cases c28 : (a1.extract 0 (t198 : Int).toNat).size + ((⟨#[46, 58, 47, 48, 49, 50, 57, 97, 71, 32, 45, 10]⟩ : ByteArray).extract (t201 : Int).toNat ((wrap64 (t201 + 1)) : Int).toNat).size ≤ 9223372036854775807
 rw [if_pos c28] at H
 have c28b0 := eq_true c28
 have c28b1 : decide ((a1.extract 0 (t198 : Int).toNat).size + ((⟨#[46, 58, 47, 48, 49, 50, 57, 97, 71, 32, 45, 10]⟩ : ByteArray).extract (t201 : Int).toNat ((wrap64 (t201 + 1)) : Int).toNat).size ≤ 9223372036854775807) = true := decide_eq_true c28
 try have c28b2 : (9223372036854775807 < (a1.extract 0 (t198 : Int).toNat).size + ((⟨#[46, 58, 47, 48, 49, 50, 57, 97, 71, 32, 45, 10]⟩ : ByteArray).extract (t201 : Int).toNat ((wrap64 (t201 + 1)) : Int).toNat).size) = False := eq_false (Nat.not_lt.2 c28)
 (try (have c28bx2 := c28b2; simp only [ByteArray.size_append, ByteArray.size_extract] at c28bx2; simp only [← i64_w] at c28bx2))
 (try (have c28bw0 := c28b0; simp only [← i64_w] at c28bw0))
 (try (have c28bz0 := c28b0; simp only [← i64_w, show ((⟨#[46, 58, 47, 48, 49, 50, 57, 97, 71, 32, 45, 10]⟩ : ByteArray).size : Int) = 12 from rfl] at c28bz0))
 (try (have c28bw1 := c28b1; simp only [← i64_w] at c28bw1))
 (try (have c28bz1 := c28b1; simp only [← i64_w, show ((⟨#[46, 58, 47, 48, 49, 50, 57, 97, 71, 32, 45, 10]⟩ : ByteArray).size : Int) = 12 from rfl] at c28bz1))
 (try (have c28bw2 := c28b2; simp only [← i64_w] at c28bw2))
 obtain ⟨ji29, hji29⟩ : ∃ j_ : Int, (wrap64 (t198 + 1)) = j_ := ⟨_, rfl⟩
 replace H : (if 0 ≤ (ji29) then (if (ji29) ≤ (a1.size : Int) then (if ((a1.extract 0 (t198 : Int).toNat) ++ ((⟨#[46, 58, 47, 48, 49, 50, 57, 97, 71, 32, 45, 10]⟩ : ByteArray).extract (t201 : Int).toNat ((wrap64 (t201 + 1)) : Int).toNat)).size + (a1.extract ((ji29) : Int).toNat a1.size).size ≤ 9223372036854775807 then (some (((a1.extract 0 (t198 : Int).toNat) ++ ((⟨#[46, 58, 47, 48, 49, 50, 57, 97, 71, 32, 45, 10]⟩ : ByteArray).extract (t201 : Int).toNat ((wrap64 (t201 + 1)) : Int).toNat)) ++ (a1.extract ((ji29) : Int).toNat a1.size), t205, t206)) else (none)) else (none)) else (none)) = some (r1, r2, r3) := by first | (rw [hji29] at H; exact H) | (simp only [hji29] at H ⊢; exact H)
 (try rw [hji29] at A4)
 (try rw [hji29] at A6)
 (try rw [hji29] at A7)
 (try rw [hji29] at A8)
 have hji29w : (IntKind.i64.wrap (t198 + 1)) = ji29 := (i64_w _).trans hji29
 by_cases c30 : 0 ≤ (ji29)
 rw [if_pos c30] at H
 have c30b0 := eq_true c30
 have c30b1 : decide (0 ≤ (ji29)) = true := decide_eq_true c30
 clear c30
 by_cases c31 : (ji29) ≤ (a1.size : Int)
 rw [if_pos c31] at H
 have c31b0 := eq_true c31
 have c31b1 : decide ((ji29) ≤ (a1.size : Int)) = true := decide_eq_true c31
 clear c31
 by_cases c32 : ((a1.extract 0 (t198 : Int).toNat) ++ ((⟨#[46, 58, 47, 48, 49, 50, 57, 97, 71, 32, 45, 10]⟩ : ByteArray).extract (t201 : Int).toNat ((wrap64 (t201 + 1)) : Int).toNat)).size + (a1.extract ((ji29) : Int).toNat a1.size).size ≤ 9223372036854775807
 rw [if_pos c32] at H
 have c32b0 := eq_true c32
 have c32b1 : decide (((a1.extract 0 (t198 : Int).toNat) ++ ((⟨#[46, 58, 47, 48, 49, 50, 57, 97, 71, 32, 45, 10]⟩ : ByteArray).extract (t201 : Int).toNat ((wrap64 (t201 + 1)) : Int).toNat)).size + (a1.extract ((ji29) : Int).toNat a1.size).size ≤ 9223372036854775807) = true := decide_eq_true c32
 try have c32b2 : (9223372036854775807 < ((a1.extract 0 (t198 : Int).toNat) ++ ((⟨#[46, 58, 47, 48, 49, 50, 57, 97, 71, 32, 45, 10]⟩ : ByteArray).extract (t201 : Int).toNat ((wrap64 (t201 + 1)) : Int).toNat)).size + (a1.extract ((ji29) : Int).toNat a1.size).size) = False := eq_false (Nat.not_lt.2 c32)
 (try (have c32b5 := c32b2; simp only [ByteArray.size_append, show (⟨#[46, 58, 47, 48, 49, 50, 57, 97, 71, 32, 45, 10]⟩ : ByteArray).size = 12 from rfl] at c32b5))
 (try (have c32bx2 := c32b2; simp only [ByteArray.size_append, ByteArray.size_extract] at c32bx2; simp only [← i64_w] at c32bx2))
 (try (have c32bw0 := c32b0; simp only [← i64_w] at c32bw0))
 (try (have c32bz0 := c32b0; simp only [← i64_w, show ((⟨#[46, 58, 47, 48, 49, 50, 57, 97, 71, 32, 45, 10]⟩ : ByteArray).size : Int) = 12 from rfl] at c32bz0))
 (try (have c32bw1 := c32b1; simp only [← i64_w] at c32bw1))
 (try (have c32bz1 := c32b1; simp only [← i64_w, show ((⟨#[46, 58, 47, 48, 49, 50, 57, 97, 71, 32, 45, 10]⟩ : ByteArray).size : Int) = 12 from rfl] at c32bz1))
 (try (have c32bw2 := c32b2; simp only [← i64_w] at c32bw2))
 simp only [Option.some.injEq, Prod.mk.injEq] at H
 obtain ⟨rfl, rfl, rfl⟩ := H
 rotate_left
 rw [if_neg c32] at H
 exact absurd H (by simp)
 rw [if_neg c31] at H
 exact absurd H (by simp)
 rw [if_neg c30] at H
 exact absurd H (by simp)
 rw [if_neg c28] at H
 exact absurd H (by simp)
 rw [if_neg c27] at H
 exact absurd H (by simp)
 rw [if_neg c26] at H
 exact absurd H (by simp)
 rw [if_neg c25] at H
 exact absurd H (by simp)
 rw [if_neg c24] at H
 exact absurd H (by simp)
 rw [if_neg c23] at H
 exact absurd H (by simp)
 rw [if_neg c22] at H
 have c22b0 : decide (t198 < (a1.size : Int)) = false := decide_eq_false c22
 clear c22
 simp only [Option.some.injEq, Prod.mk.injEq] at H
 obtain ⟨rfl, rfl, rfl⟩ := H
 rotate_left
 all_goals (
 go_enter Tryd.func42, Tryd.ntmps42
 go_wp2_with (first | (go_at_call 64; (with_reducible refine (spec_l01Next.calls g s0_0 s0_1 s0_2 a2 t195 t196 t197 w0 _ ?side1 ?side2 A4.out).mono ?_); (case side1 => repeat (first | (with_reducible first | exact HI0.out | apply IsS62.alloc | apply IsS62.drewN | apply IsS62.drew | apply IsS62.set_1 | apply IsS62.set_2) | exact HI0.out)); (case side2 => repeat (first | (with_reducible first | exact HB.out | apply below_alloc | apply pw_below_drewN | apply below_drew1 | refine below_set ?_ (IsS62.ge HI0.out)) | exact HB.out)); rintro e w1001 ⟨rfl, hi, hb, hk⟩; have n0_ := Aside0.mk (KeepBut.trans (by repeat (first | (with_reducible first | exact HK.out | apply KeepBut.set_ | apply keep_drewN | apply keep_drew | apply keep_alloc) | exact HK.out)) hk (.inl rfl)); have n1_ := Aside0.mk (hb); have n2_ := Aside0.mk (hi); clear HK; clear HB; clear HI0; have HK := n0_; have HB := n1_; have HI0 := n2_; clear n0_ n1_ n2_; (try clear hb); (try clear hb2); (try clear hk); (try clear hi)) | (go_at_call 64; (with_reducible refine (spec_l01Next.calls g s0_0 t196 t197 (wrap64 ((a1.size : Int) + 1)) t198 t199 t200 w0 _ ?side1 ?side2 A6.out).mono ?_); (case side1 => repeat (first | (with_reducible first | exact HI0.out | apply IsS62.alloc | apply IsS62.drewN | apply IsS62.drew | apply IsS62.set_1 | apply IsS62.set_2) | exact HI0.out)); (case side2 => repeat (first | (with_reducible first | exact HB.out | apply below_alloc | apply pw_below_drewN | apply below_drew1 | refine below_set ?_ (IsS62.ge HI0.out)) | exact HB.out)); rintro e w1002 ⟨rfl, hi, hb, hk⟩; have n0_ := Aside0.mk (KeepBut.trans (by repeat (first | (with_reducible first | exact HK.out | apply KeepBut.set_ | apply keep_drewN | apply keep_drew | apply keep_alloc) | exact HK.out)) hk (.inl rfl)); have n1_ := Aside0.mk (hb); have n2_ := Aside0.mk (hi); clear HK; clear HB; clear HI0; have HK := n0_; have HB := n1_; have HI0 := n2_; clear n0_ n1_ n2_; (try clear hb); (try clear hb2); (try clear hk); (try clear hi)) | (go_at_call 64; (with_reducible refine (spec_l01Next.calls g s0_0 t199 t200 12 t201 t202 t203 w0 _ ?side1 ?side2 A7.out).mono ?_); (case side1 => repeat (first | (with_reducible first | exact HI0.out | apply IsS62.alloc | apply IsS62.drewN | apply IsS62.drew | apply IsS62.set_1 | apply IsS62.set_2) | exact HI0.out)); (case side2 => repeat (first | (with_reducible first | exact HB.out | apply below_alloc | apply pw_below_drewN | apply below_drew1 | refine below_set ?_ (IsS62.ge HI0.out)) | exact HB.out)); rintro e w1003 ⟨rfl, hi, hb, hk⟩; have n0_ := Aside0.mk (KeepBut.trans (by repeat (first | (with_reducible first | exact HK.out | apply KeepBut.set_ | apply keep_drewN | apply keep_drew | apply keep_alloc) | exact HK.out)) hk (.inl rfl)); have n1_ := Aside0.mk (hb); have n2_ := Aside0.mk (hi); clear HK; clear HB; clear HI0; have HK := n0_; have HB := n1_; have HI0 := n2_; clear n0_ n1_ n2_; (try clear hb); (try clear hb2); (try clear hk); (try clear hi)) | (go_at_call 64; (with_reducible refine (spec_l01Next.calls g s0_0 t202 t203 3 t204 t205 t206 w0 _ ?side1 ?side2 A8.out).mono ?_); (case side1 => repeat (first | (with_reducible first | exact HI0.out | apply IsS62.alloc | apply IsS62.drewN | apply IsS62.drew | apply IsS62.set_1 | apply IsS62.set_2) | exact HI0.out)); (case side2 => repeat (first | (with_reducible first | exact HB.out | apply below_alloc | apply pw_below_drewN | apply below_drew1 | refine below_set ?_ (IsS62.ge HI0.out)) | exact HB.out)); rintro e w1004 ⟨rfl, hi, hb, hk⟩; have n0_ := Aside0.mk (KeepBut.trans (by repeat (first | (with_reducible first | exact HK.out | apply KeepBut.set_ | apply keep_drewN | apply keep_drew | apply keep_alloc) | exact HK.out)) hk (.inl rfl)); have n1_ := Aside0.mk (hb); have n2_ := Aside0.mk (hi); clear HK; clear HB; clear HI0; have HK := n0_; have HB := n1_; have HI0 := n2_; clear n0_ n1_ n2_; (try clear hb); (try clear hb2); (try clear hk); (try clear hi)))
 )
 {
 repeat (go_quiet (first | (go_at_call 64; (with_reducible refine (spec_l01Next.calls g s0_0 s0_1 s0_2 a2 t195 t196 t197 w0 _ ?side1 ?side2 A4.out).mono ?_); (case side1 => repeat (first | (with_reducible first | exact HI0.out | apply IsS62.alloc | apply IsS62.drewN | apply IsS62.drew | apply IsS62.set_1 | apply IsS62.set_2) | exact HI0.out)); (case side2 => repeat (first | (with_reducible first | exact HB.out | apply below_alloc | apply pw_below_drewN | apply below_drew1 | refine below_set ?_ (IsS62.ge HI0.out)) | exact HB.out)); rintro e w1001 ⟨rfl, hi, hb, hk⟩; have n0_ := Aside0.mk (KeepBut.trans (by repeat (first | (with_reducible first | exact HK.out | apply KeepBut.set_ | apply keep_drewN | apply keep_drew | apply keep_alloc) | exact HK.out)) hk (.inl rfl)); have n1_ := Aside0.mk (hb); have n2_ := Aside0.mk (hi); clear HK; clear HB; clear HI0; have HK := n0_; have HB := n1_; have HI0 := n2_; clear n0_ n1_ n2_; (try clear hb); (try clear hb2); (try clear hk); (try clear hi))); try go_wp2_with (first | (go_at_call 64; (with_reducible refine (spec_l01Next.calls g s0_0 s0_1 s0_2 a2 t195 t196 t197 w0 _ ?side1 ?side2 A4.out).mono ?_); (case side1 => repeat (first | (with_reducible first | exact HI0.out | apply IsS62.alloc | apply IsS62.drewN | apply IsS62.drew | apply IsS62.set_1 | apply IsS62.set_2) | exact HI0.out)); (case side2 => repeat (first | (with_reducible first | exact HB.out | apply below_alloc | apply pw_below_drewN | apply below_drew1 | refine below_set ?_ (IsS62.ge HI0.out)) | exact HB.out)); rintro e w1001 ⟨rfl, hi, hb, hk⟩; have n0_ := Aside0.mk (KeepBut.trans (by repeat (first | (with_reducible first | exact HK.out | apply KeepBut.set_ | apply keep_drewN | apply keep_drew | apply keep_alloc) | exact HK.out)) hk (.inl rfl)); have n1_ := Aside0.mk (hb); have n2_ := Aside0.mk (hi); clear HK; clear HB; clear HI0; have HK := n0_; have HB := n1_; have HI0 := n2_; clear n0_ n1_ n2_; (try clear hb); (try clear hb2); (try clear hk); (try clear hi))))
 go_ret
 exact ⟨by first | rfl | (simp [errW_none, errW_some] <;> rfl) | (simp [*, errW_none, errW_some] <;> rfl), by repeat (first | (with_reducible first | exact HI0.out | apply IsS62.alloc | apply IsS62.drewN | apply IsS62.drew | apply IsS62.set_1 | apply IsS62.set_2) | exact HI0.out), by repeat (first | (with_reducible first | exact HB.out | apply below_alloc | apply pw_below_drewN | apply below_drew1 | refine below_set ?_ (IsS62.ge HI0.out)) | exact HB.out), by repeat (first | (with_reducible first | exact HK.out | apply KeepBut.set_ | apply keep_drewN | apply keep_drew | apply keep_alloc) | exact HK.out)⟩
 }
 all_goals (
 repeat (go_quiet (first | (go_at_call 64; (with_reducible refine (spec_l01Next.calls g s0_0 s0_1 s0_2 a2 t195 t196 t197 w0 _ ?side1 ?side2 A4.out).mono ?_); (case side1 => repeat (first | (with_reducible first | exact HI0.out | apply IsS62.alloc | apply IsS62.drewN | apply IsS62.drew | apply IsS62.set_1 | apply IsS62.set_2) | exact HI0.out)); (case side2 => repeat (first | (with_reducible first | exact HB.out | apply below_alloc | apply pw_below_drewN | apply below_drew1 | refine below_set ?_ (IsS62.ge HI0.out)) | exact HB.out)); rintro e w1001 ⟨rfl, hi, hb, hk⟩; have n0_ := Aside0.mk (KeepBut.trans (by repeat (first | (with_reducible first | exact HK.out | apply KeepBut.set_ | apply keep_drewN | apply keep_drew | apply keep_alloc) | exact HK.out)) hk (.inl rfl)); have n1_ := Aside0.mk (hb); have n2_ := Aside0.mk (hi); clear HK; clear HB; clear HI0; have HK := n0_; have HB := n1_; have HI0 := n2_; clear n0_ n1_ n2_; (try clear hb); (try clear hb2); (try clear hk); (try clear hi)) | (go_at_call 64; (with_reducible refine (spec_l01Next.calls g s0_0 t196 t197 (wrap64 ((a1.size : Int) + 1)) t198 t199 t200 w0 _ ?side1 ?side2 A6.out).mono ?_); (case side1 => repeat (first | (with_reducible first | exact HI0.out | apply IsS62.alloc | apply IsS62.drewN | apply IsS62.drew | apply IsS62.set_1 | apply IsS62.set_2) | exact HI0.out)); (case side2 => repeat (first | (with_reducible first | exact HB.out | apply below_alloc | apply pw_below_drewN | apply below_drew1 | refine below_set ?_ (IsS62.ge HI0.out)) | exact HB.out)); rintro e w1002 ⟨rfl, hi, hb, hk⟩; have n0_ := Aside0.mk (KeepBut.trans (by repeat (first | (with_reducible first | exact HK.out | apply KeepBut.set_ | apply keep_drewN | apply keep_drew | apply keep_alloc) | exact HK.out)) hk (.inl rfl)); have n1_ := Aside0.mk (hb); have n2_ := Aside0.mk (hi); clear HK; clear HB; clear HI0; have HK := n0_; have HB := n1_; have HI0 := n2_; clear n0_ n1_ n2_; (try clear hb); (try clear hb2); (try clear hk); (try clear hi)) | (go_at_call 64; (with_reducible refine (spec_l01Next.calls g s0_0 t199 t200 12 t201 t202 t203 w0 _ ?side1 ?side2 A7.out).mono ?_); (case side1 => repeat (first | (with_reducible first | exact HI0.out | apply IsS62.alloc | apply IsS62.drewN | apply IsS62.drew | apply IsS62.set_1 | apply IsS62.set_2) | exact HI0.out)); (case side2 => repeat (first | (with_reducible first | exact HB.out | apply below_alloc | apply pw_below_drewN | apply below_drew1 | refine below_set ?_ (IsS62.ge HI0.out)) | exact HB.out)); rintro e w1003 ⟨rfl, hi, hb, hk⟩; have n0_ := Aside0.mk (KeepBut.trans (by repeat (first | (with_reducible first | exact HK.out | apply KeepBut.set_ | apply keep_drewN | apply keep_drew | apply keep_alloc) | exact HK.out)) hk (.inl rfl)); have n1_ := Aside0.mk (hb); have n2_ := Aside0.mk (hi); clear HK; clear HB; clear HI0; have HK := n0_; have HB := n1_; have HI0 := n2_; clear n0_ n1_ n2_; (try clear hb); (try clear hb2); (try clear hk); (try clear hi)) | (go_at_call 64; (with_reducible refine (spec_l01Next.calls g s0_0 t202 t203 3 t204 t205 t206 w0 _ ?side1 ?side2 A8.out).mono ?_); (case side1 => repeat (first | (with_reducible first | exact HI0.out | apply IsS62.alloc | apply IsS62.drewN | apply IsS62.drew | apply IsS62.set_1 | apply IsS62.set_2) | exact HI0.out)); (case side2 => repeat (first | (with_reducible first | exact HB.out | apply below_alloc | apply pw_below_drewN | apply below_drew1 | refine below_set ?_ (IsS62.ge HI0.out)) | exact HB.out)); rintro e w1004 ⟨rfl, hi, hb, hk⟩; have n0_ := Aside0.mk (KeepBut.trans (by repeat (first | (with_reducible first | exact HK.out | apply KeepBut.set_ | apply keep_drewN | apply keep_drew | apply keep_alloc) | exact HK.out)) hk (.inl rfl)); have n1_ := Aside0.mk (hb); have n2_ := Aside0.mk (hi); clear HK; clear HB; clear HI0; have HK := n0_; have HB := n1_; have HI0 := n2_; clear n0_ n1_ n2_; (try clear hb); (try clear hb2); (try clear hk); (try clear hi))); try go_wp2_with (first | (go_at_call 64; (with_reducible refine (spec_l01Next.calls g s0_0 s0_1 s0_2 a2 t195 t196 t197 w0 _ ?side1 ?side2 A4.out).mono ?_); (case side1 => repeat (first | (with_reducible first | exact HI0.out | apply IsS62.alloc | apply IsS62.drewN | apply IsS62.drew | apply IsS62.set_1 | apply IsS62.set_2) | exact HI0.out)); (case side2 => repeat (first | (with_reducible first | exact HB.out | apply below_alloc | apply pw_below_drewN | apply below_drew1 | refine below_set ?_ (IsS62.ge HI0.out)) | exact HB.out)); rintro e w1001 ⟨rfl, hi, hb, hk⟩; have n0_ := Aside0.mk (KeepBut.trans (by repeat (first | (with_reducible first | exact HK.out | apply KeepBut.set_ | apply keep_drewN | apply keep_drew | apply keep_alloc) | exact HK.out)) hk (.inl rfl)); have n1_ := Aside0.mk (hb); have n2_ := Aside0.mk (hi); clear HK; clear HB; clear HI0; have HK := n0_; have HB := n1_; have HI0 := n2_; clear n0_ n1_ n2_; (try clear hb); (try clear hb2); (try clear hk); (try clear hi)) | (go_at_call 64; (with_reducible refine (spec_l01Next.calls g s0_0 t196 t197 (wrap64 ((a1.size : Int) + 1)) t198 t199 t200 w0 _ ?side1 ?side2 A6.out).mono ?_); (case side1 => repeat (first | (with_reducible first | exact HI0.out | apply IsS62.alloc | apply IsS62.drewN | apply IsS62.drew | apply IsS62.set_1 | apply IsS62.set_2) | exact HI0.out)); (case side2 => repeat (first | (with_reducible first | exact HB.out | apply below_alloc | apply pw_below_drewN | apply below_drew1 | refine below_set ?_ (IsS62.ge HI0.out)) | exact HB.out)); rintro e w1002 ⟨rfl, hi, hb, hk⟩; have n0_ := Aside0.mk (KeepBut.trans (by repeat (first | (with_reducible first | exact HK.out | apply KeepBut.set_ | apply keep_drewN | apply keep_drew | apply keep_alloc) | exact HK.out)) hk (.inl rfl)); have n1_ := Aside0.mk (hb); have n2_ := Aside0.mk (hi); clear HK; clear HB; clear HI0; have HK := n0_; have HB := n1_; have HI0 := n2_; clear n0_ n1_ n2_; (try clear hb); (try clear hb2); (try clear hk); (try clear hi)) | (go_at_call 64; (with_reducible refine (spec_l01Next.calls g s0_0 t199 t200 12 t201 t202 t203 w0 _ ?side1 ?side2 A7.out).mono ?_); (case side1 => repeat (first | (with_reducible first | exact HI0.out | apply IsS62.alloc | apply IsS62.drewN | apply IsS62.drew | apply IsS62.set_1 | apply IsS62.set_2) | exact HI0.out)); (case side2 => repeat (first | (with_reducible first | exact HB.out | apply below_alloc | apply pw_below_drewN | apply below_drew1 | refine below_set ?_ (IsS62.ge HI0.out)) | exact HB.out)); rintro e w1003 ⟨rfl, hi, hb, hk⟩; have n0_ := Aside0.mk (KeepBut.trans (by repeat (first | (with_reducible first | exact HK.out | apply KeepBut.set_ | apply keep_drewN | apply keep_drew | apply keep_alloc) | exact HK.out)) hk (.inl rfl)); have n1_ := Aside0.mk (hb); have n2_ := Aside0.mk (hi); clear HK; clear HB; clear HI0; have HK := n0_; have HB := n1_; have HI0 := n2_; clear n0_ n1_ n2_; (try clear hb); (try clear hb2); (try clear hk); (try clear hi)) | (go_at_call 64; (with_reducible refine (spec_l01Next.calls g s0_0 t202 t203 3 t204 t205 t206 w0 _ ?side1 ?side2 A8.out).mono ?_); (case side1 => repeat (first | (with_reducible first | exact HI0.out | apply IsS62.alloc | apply IsS62.drewN | apply IsS62.drew | apply IsS62.set_1 | apply IsS62.set_2) | exact HI0.out)); (case side2 => repeat (first | (with_reducible first | exact HB.out | apply below_alloc | apply pw_below_drewN | apply below_drew1 | refine below_set ?_ (IsS62.ge HI0.out)) | exact HB.out)); rintro e w1004 ⟨rfl, hi, hb, hk⟩; have n0_ := Aside0.mk (KeepBut.trans (by repeat (first | (with_reducible first | exact HK.out | apply KeepBut.set_ | apply keep_drewN | apply keep_drew | apply keep_alloc) | exact HK.out)) hk (.inl rfl)); have n1_ := Aside0.mk (hb); have n2_ := Aside0.mk (hi); clear HK; clear HB; clear HI0; have HK := n0_; have HB := n1_; have HI0 := n2_; clear n0_ n1_ n2_; (try clear hb); (try clear hb2); (try clear hk); (try clear hi))))
 go_ret
 )
 iterate 2 (
 focus (
 exact ⟨by first | rfl | (simp [errW_none, errW_some] <;> rfl) | (simp [*, errW_none, errW_some] <;> rfl), by repeat (first | (with_reducible first | exact HI0.out | apply IsS62.alloc | apply IsS62.drewN | apply IsS62.drew | apply IsS62.set_1 | apply IsS62.set_2) | exact HI0.out), by repeat (first | (with_reducible first | exact HB.out | apply below_alloc | apply pw_below_drewN | apply below_drew1 | refine below_set ?_ (IsS62.ge HI0.out)) | exact HB.out), by repeat (first | (with_reducible first | exact HK.out | apply KeepBut.set_ | apply keep_drewN | apply keep_drew | apply keep_alloc) | exact HK.out)⟩
 )
 )
 {
 exact ⟨by first | rfl | (simp [errW_none, errW_some] <;> rfl) | (simp only [← hji29]; first | rfl | (simp [errW_none, errW_some] <;> rfl)) | (simp [*, errW_none, errW_some] <;> rfl), by repeat (first | (with_reducible first | exact HI0.out | apply IsS62.alloc | apply IsS62.drewN | apply IsS62.drew | apply IsS62.set_1 | apply IsS62.set_2) | exact HI0.out), by repeat (first | (with_reducible first | exact HB.out | apply below_alloc | apply pw_below_drewN | apply below_drew1 | refine below_set ?_ (IsS62.ge HI0.out)) | exact HB.out), by repeat (first | (with_reducible first | exact HK.out | apply KeepBut.set_ | apply keep_drewN | apply keep_drew | apply keep_alloc) | exact HK.out)⟩
 }
 {
 exact ⟨by first | rfl | (simp [errW_none, errW_some] <;> rfl) | (simp [*, errW_none, errW_some] <;> rfl), by repeat (first | (with_reducible first | exact HI0.out | apply IsS62.alloc | apply IsS62.drewN | apply IsS62.drew | apply IsS62.set_1 | apply IsS62.set_2) | exact HI0.out), by repeat (first | (with_reducible first | exact HB.out | apply below_alloc | apply pw_below_drewN | apply below_drew1 | refine below_set ?_ (IsS62.ge HI0.out)) | exact HB.out), by repeat (first | (with_reducible first | exact HK.out | apply KeepBut.set_ | apply keep_drewN | apply keep_drew | apply keep_alloc) | exact HK.out)⟩
 }

/-! ### spec_DrawReadPrefix: function 17 -/
def spec_DrawReadPrefix.f (k : Nat) (l0 : List Int) : Option (ByteArray) := (spec_l01Begin.f k l0).bind fun bt207 => ((spec_l02Prefix.f k l0 bt207.1 bt207.2).bind fun bt210 => ((spec_ShowPrefix.f k bt210.1 bt210.2.1).bind fun bt214 => ((spec_l02Bend.f l0 bt210.2.2.1 bt210.2.2.2 bt214.1 3).bind fun bt216 => (some bt216.1))))
theorem spec_DrawReadPrefix.mono : ∀ a0 k, LeO (spec_DrawReadPrefix.f k a0) (spec_DrawReadPrefix.f (k + 1) a0) := by
  intro a0 k
  unfold spec_DrawReadPrefix.f
  repeat' first
      | (with_reducible exact spec_ShowPrefix.mono _ _ _)
      | (with_reducible exact spec_l01Begin.mono _ _)
      | (with_reducible exact spec_l02Prefix.mono _ _ _ _)
      | (with_reducible exact LeO.refl _)
      | (with_reducible exact LeO.none _)
      | (with_reducible refine LeO.ite ?_ ?_)
      | (with_reducible refine LeO.bind ?_ (fun _ => ?_))
      | exact spec_ShowPrefix.mono _ _ _
      | exact spec_l01Begin.mono _ _
      | exact spec_l02Prefix.mono _ _ _ _
      | exact LeO.none _
      | refine LeO.ite ?_ ?_
      | refine LeO.bind ?_ (fun _ => ?_)
set_option maxHeartbeats 60000000 in
set_option maxRecDepth 100000 in
theorem spec_DrawReadPrefix.calls (k : Nat) (A0 : Option Addr) (c0 : Nat) (l0 : List Int) (r : ByteArray) (w : World) (hr0 : Kd.C (Kd.int .u8) w A0 l0.length l0) (hc0 : l0.length ≤ c0) (h : spec_DrawReadPrefix.f k l0 = some r) :
    Calls Tryd.prog 17 #[.slice A0 l0.length c0] w fun e w' => e = .returned (.string r) ∧ Below w.heap.size w w' := by
  have hu62 := Tryd.underlying62
  have HR0 := Aside0.mk hr0
  have HC0 := Aside0.mk hc0
  clear hr0 hc0
  have HB := Aside0.mk (Below.refl w.heap.size w)
  have H : ((spec_l01Begin.f k l0).bind fun bt207 => ((spec_l02Prefix.f k l0 bt207.1 bt207.2).bind fun bt210 => ((spec_ShowPrefix.f k bt210.1 bt210.2.1).bind fun bt214 => ((spec_l02Bend.f l0 bt210.2.2.1 bt210.2.2.2 bt214.1 3).bind fun bt216 => (some bt216.1))))) = some r := h
  clear h
  replace H := Option.bind_eq_some_iff.mp H
  obtain ⟨⟨t207, t208⟩, A20, H⟩ := H
  replace H : ((spec_l02Prefix.f k l0 t207 t208).bind fun bt210 => ((spec_ShowPrefix.f k bt210.1 bt210.2.1).bind fun bt214 => ((spec_l02Bend.f l0 bt210.2.2.1 bt210.2.2.2 bt214.1 3).bind fun bt216 => (some bt216.1)))) = some r := H
  have A2 := Aside0.mk A20
  clear A20
  replace H := Option.bind_eq_some_iff.mp H
  obtain ⟨⟨t210, t211, t212, t213⟩, A30, H⟩ := H
  replace H : ((spec_ShowPrefix.f k t210 t211).bind fun bt214 => ((spec_l02Bend.f l0 t212 t213 bt214.1 3).bind fun bt216 => (some bt216.1))) = some r := H
  have A3 := Aside0.mk A30
  clear A30
  replace H := Option.bind_eq_some_iff.mp H
  obtain ⟨⟨t214, t215⟩, A40, H⟩ := H
  replace H : ((spec_l02Bend.f l0 t212 t213 t214 3).bind fun bt216 => (some bt216.1)) = some r := H
  have A4 := Aside0.mk A40
  clear A40
  replace H := Option.bind_eq_some_iff.mp H
  obtain ⟨⟨t216, t217, t218⟩, A50, H⟩ := H
  replace H : (some t216) = some r := H
  have A5 := Aside0.mk A50
  clear A50
  obtain rfl := Option.some.inj H
  go_enter Tryd.func17, Tryd.ntmps17
  go_wp2_with (first | ((with_reducible refine gate_callee (f := 40) rfl ?_); refine goesL_ (some 7) rfl rfl Tryd.func40 (by kernel_rfl) rfl #[.slice A0 l0.length c0] rfl wT ?_; (with_reducible refine (spec_l01Begin.calls k _ _ l0 t207 t208 _ ?side1 ?side2 A2.out).mono ?_); (case side1 => repeat (first | exact HR0.out | (with_reducible refine Kd.C_alloc ?_ _) | (with_reducible refine Kd.C_drewN ?_ _) | (with_reducible refine Kd.C_drew ?_))); (case side2 => exact HC0.out); rintro e w1001 ⟨rfl, hb⟩; refine ⟨_, rfl, ?_⟩; have n0_ := Aside0.mk (below_step wB hb); clear HB; have HB := n0_; clear n0_; (try clear hb); (try clear hb2); (try clear hk); (try clear hi)) | ((with_reducible refine gate_dst (N := 3) rfl ?_); refine box_event ?hg (N := 3) ?hd (cs := #[.slice none 0 0, .int .i64 0, .int .u64 0]) (t := 62) ?hr ?_; (case hd => rfl); (case hg => rfl); (case hr => first | (go_simp; done) | (go_simp; rfl)); intro gb209 hg w1002 hbox hb; have n0_ := Aside0.mk (below_step wB hb); have n1_ := Aside0.mk (hbox); have n2_ := Aside0.mk ((by rw [hg]; exact (below_size wB) : w.heap.size ≤ gb209)); have n3_ := Aside0.mk ((by rw [hg]; exact (below_size wB) : w.heap.size ≤ gb209)); clear HB; have HB := n0_; have BK209 := n1_; have GW209 := n2_; have GE209 := n3_; clear n0_ n1_ n2_ n3_; clear hb hbox hg; obtain ⟨⟨hcz1003_0, hcz1003_1, hcz1003_2⟩, hfz1003_0, hfz1003_1, hfz1003_2⟩ := cells3 BK209.out) | ((with_reducible refine gate_store (t := 62) (p := 3) rfl ?_); refine store_event (t := 62) (p := 3) (v := ?_) (w1 := (((w1002.setCell ⟨gb209, 0, none⟩ (.slice A0 l0.length c0)).setCell ⟨gb209, 1, none⟩ (.int .i64 t207)).setCell ⟨gb209, 2, none⟩ (.int .u64 t208))) ?hg ?ho ?hn ?hr ?_; (case ho => rfl); (case hg => rfl); (case hn => rfl); (case hr => first | (go_simp; done) | (go_simp; rfl)); intro w1004 hw; have n0_ : Aside0 (w1004.heap[gb209]? = some (.cells #[.slice A0 l0.length c0, .int .i64 t207, .int .u64 t208] 62 (0, 0))) := ⟨(by rw [hw]; exact (by (with_reducible repeat (first | refine blk_drewN ?_ _ | refine blk_drew ?_ | refine blk_alloc ?_ _)); refine blk_put (cs := #[.slice A0 l0.length c0, .int .i64 t207, .int .u64 0]) ?_ 2 _ rfl; (with_reducible repeat (first | refine blk_drewN ?_ _ | refine blk_drew ?_ | refine blk_alloc ?_ _)); refine blk_put (cs := #[.slice A0 l0.length c0, .int .i64 0, .int .u64 0]) ?_ 1 _ rfl; (with_reducible repeat (first | refine blk_drewN ?_ _ | refine blk_drew ?_ | refine blk_alloc ?_ _)); refine blk_put (cs := #[.slice none 0 0, .int .i64 0, .int .u64 0]) ?_ 0 _ rfl; (with_reducible repeat (first | refine blk_drewN ?_ _ | refine blk_drew ?_ | refine blk_alloc ?_ _)); exact BK209.out))⟩; have n1_ : Aside0 (Below w.heap.size w w1004) := ⟨(by rw [hw]; exact wB)⟩; clear hw; clear BK209; clear HB; have BK209 := n0_; have HB := n1_; clear n0_ n1_; have HI209 := Aside0.mk (show IsS62 w w1004 gb209 l0 t207 t208 from ⟨_, _, by (with_reducible repeat (first | refine blk_drewN ?_ _ | refine blk_drew ?_ | refine blk_alloc ?_ _)); exact BK209.out, GW209.out, HR0.out⟩)) | ((with_reducible refine gate_callee (f := 41) rfl ?_); refine goesL_ (some 9) rfl rfl Tryd.func41 (by kernel_rfl) rfl #[.pointer (some ⟨gb209, 0, none⟩)] rfl wT ?_; (with_reducible refine (spec_l02Prefix.calls k gb209 l0 t207 t208 t210 t211 t212 t213 w _ ?side1 ?side2 A3.out).mono ?_); (case side1 => repeat (first | (with_reducible first | exact HI209.out | apply IsS62.alloc | apply IsS62.drewN | apply IsS62.drew | apply IsS62.set_1 | apply IsS62.set_2) | exact HI209.out)); (case side2 => repeat (first | (with_reducible first | exact HB.out | apply below_alloc | apply pw_below_drewN | apply below_drew1 | refine below_set ?_ (IsS62.ge HI209.out)) | exact HB.out)); rintro e w1005 ⟨rfl, hi, hb, hk⟩; refine ⟨_, rfl, ?_⟩; have n0_ := Aside0.mk (hb); have n1_ := Aside0.mk (hi); clear HB; clear HI209; have HB := n0_; have HI209 := n1_; clear n0_ n1_; (try clear hb); (try clear hb2); (try clear hk); (try clear hi)) | ((with_reducible refine gate_callee (f := 25) rfl ?_); refine goesL_ (some 10) rfl rfl Tryd.func25 (by kernel_rfl) rfl #[.agg #[.int .i64 t210, .int .i64 t211]] rfl wT ?_; (with_reducible refine (spec_ShowPrefix.calls k t210 t211 t214 t215 _ A4.out).mono ?_); rintro e w1006 ⟨rfl, hb⟩; refine ⟨_, rfl, ?_⟩; have n0_ := Aside0.mk (IsS62.below (by repeat (first | (with_reducible first | exact HI209.out | apply IsS62.alloc | apply IsS62.drewN | apply IsS62.drew | apply IsS62.set_1 | apply IsS62.set_2) | exact HI209.out)) hb); have n1_ := Aside0.mk (below_step (by repeat (first | (with_reducible first | exact HB.out | apply below_alloc | apply pw_below_drewN | apply below_drew1 | refine below_set ?_ (IsS62.ge HI209.out)) | exact HB.out)) hb); clear HI209; clear HB; have HI209 := n0_; have HB := n1_; clear n0_ n1_; (try clear hb); (try clear hb2); (try clear hk); (try clear hi)) | ((with_reducible refine gate_callee (f := 42) rfl ?_); refine goesL_ (some 14) rfl rfl Tryd.func42 (by kernel_rfl) rfl #[.pointer (some ⟨gb209, 0, none⟩), .string t214, .int .i64 3] rfl wT ?_; (with_reducible refine (spec_l02Bend.calls gb209 l0 t212 t213 t214 3 t216 t217 t218 w _ ?side1 ?side2 A5.out).mono ?_); (case side1 => repeat (first | (with_reducible first | exact HI209.out | apply IsS62.alloc | apply IsS62.drewN | apply IsS62.drew | apply IsS62.set_1 | apply IsS62.set_2) | exact HI209.out)); (case side2 => repeat (first | (with_reducible first | exact HB.out | apply below_alloc | apply pw_below_drewN | apply below_drew1 | refine below_set ?_ (IsS62.ge HI209.out)) | exact HB.out)); rintro e w1007 ⟨rfl, hi, hb, hk⟩; refine ⟨_, rfl, ?_⟩; have n0_ := Aside0.mk (hb); have n1_ := Aside0.mk (hi); clear HB; clear HI209; have HB := n0_; have HI209 := n1_; clear n0_ n1_; (try clear hb); (try clear hb2); (try clear hk); (try clear hi)))
  go_ret
  exact ⟨by first | rfl | (simp [errW_none, errW_some] <;> rfl) | (simp [*, errW_none, errW_some] <;> rfl), by repeat (first | (with_reducible first | exact HB.out | apply below_alloc | apply pw_below_drewN | apply below_drew1 | refine below_set ?_ (IsS62.ge HI209.out)) | exact HB.out)⟩

end Go.Proofs.YtnnplkhjmdbmbaaDoor.PFnAddrText
