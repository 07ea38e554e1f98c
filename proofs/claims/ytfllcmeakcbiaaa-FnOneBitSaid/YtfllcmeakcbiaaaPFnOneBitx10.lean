-- Written for this claim by a program of this session (wip/mkprint.py: the print, turned at a few places). Not trusted: Lean checks it.
import Derived.Test.YtfllcmeakcbiaaaPFnOneBitx0
import Derived.Test.YtfllcmeakcbiaaaPFnOneBitx5
import Derived.Test.YtfllcmeakcbiaaaPFnOneBitx7
import Derived.Test.YtfllcmeakcbiaaaPFnOneBitx9
namespace Go.Proofs.Ytfllcmeakcbiaaa.PFnOneBit
open Go.RowKit Go.Proofs.YtfllcmeakcbiaaaW.PrintWords Go.Proofs.YtfllcmeakcbiaaaW.PrintLast Go.Proofs.YtfllcmeakcbiaaaW.PrintMore
attribute [local go_sem] max2_int min2_int max_two min_two max_three min_three max_four min_four   -- for this text's walks alone
set_option linter.unusedVariables false
set_option linter.unusedSimpArgs false

/-! ### spec_DrawSegmentLength: function 21 -/
def spec_DrawSegmentLength.f (k : Nat) (l0 : List Int) : Option (Int × Int × Int × Int × Int × Int × Int × Bool × Int × Bool × (List (S60)) × List Int) := (spec_l01Begin.f k l0).bind fun ab => ((spec_l11Draw.f k l0 ab.1 ab.2 20).bind fun aa => (some (aa.1, aa.2.1, aa.2.2.1, aa.2.2.2.1, aa.2.2.2.2.1, aa.2.2.2.2.2.1, aa.2.2.2.2.2.2.1, aa.2.2.2.2.2.2.2.1, aa.2.2.2.2.2.2.2.2.1, aa.2.2.2.2.2.2.2.2.2.1, aa.2.2.2.2.2.2.2.2.2.2.1, aa.2.2.2.2.2.2.2.2.2.2.2.1)))
theorem spec_DrawSegmentLength.mono : ∀ a0 k, LeO (spec_DrawSegmentLength.f k a0) (spec_DrawSegmentLength.f (k + 1) a0) := by
 intro a0 k
 unfold spec_DrawSegmentLength.f
 repeat' first
     | (with_reducible exact spec_l01Begin.mono _ _)
     | (with_reducible exact spec_l11Draw.mono _ _ _ _ _)
     | (with_reducible exact LeO.refl _)
     | (with_reducible exact LeO.none _)
     | (with_reducible refine LeO.ite ?_ ?_)
     | (with_reducible refine LeO.bind ?_ (fun _ => ?_))
     | exact spec_l01Begin.mono _ _
     | exact spec_l11Draw.mono _ _ _ _ _
     | exact LeO.none _
     | refine LeO.ite ?_ ?_
     | refine LeO.bind ?_ (fun _ => ?_)
set_option maxHeartbeats 60000000 in
set_option maxRecDepth 100000 in
theorem spec_DrawSegmentLength.calls (k : Nat) (A0 : Option Addr) (c0 : Nat) (l0 : List Int) (r1 : Int) (r2 : Int) (r3 : Int) (r4 : Int) (r5 : Int) (r6 : Int) (r7 : Int) (r8 : Bool) (r9 : Int) (aH : Bool) (aI : List (S60)) (aJ : List Int) (w : World) (hr0 : Kd.C (Kd.int .u8) w A0 l0.length l0) (hc0 : l0.length ≤ c0) (h : spec_DrawSegmentLength.f k l0 = some (r1, r2, r3, r4, r5, r6, r7, r8, r9, aH, aI, aJ)) :
 Calls Try.prog 21 #[.slice A0 l0.length c0] w fun e w' => ∃ v10_ v11_ : Value, e = .returned (.agg #[.int .i64 r1, .int .i64 r2, .int .i64 r3, .int .i64 r4, .int .i64 r5, .int .i64 r6, .int .i64 r7, .bool r8, .int .i64 r9, .bool aH, v10_, v11_]) ∧ Kd.R k60 60 w' w.heap.size (fun _ => True) v10_ aI ∧ Kd.R (Kd.int .u8) 5 w' w.heap.size (fun _ => True) v11_ aJ ∧ Below w.heap.size w w' := by
 have hu25 := Try.underlying25
 have hu64 := Try.underlying64
 have HR0 := Aside0.mk hr0
 have bs := Aside0.mk hc0
 clear hr0 hc0
 have HB := Aside0.mk (Below.refl w.heap.size w)
 have H : ((spec_l01Begin.f k l0).bind fun aK => ((spec_l11Draw.f k l0 aK.1 aK.2 20).bind fun ab => (some (ab.1, ab.2.1, ab.2.2.1, ab.2.2.2.1, ab.2.2.2.2.1, ab.2.2.2.2.2.1, ab.2.2.2.2.2.2.1, ab.2.2.2.2.2.2.2.1, ab.2.2.2.2.2.2.2.2.1, ab.2.2.2.2.2.2.2.2.2.1, ab.2.2.2.2.2.2.2.2.2.2.1, ab.2.2.2.2.2.2.2.2.2.2.2.1)))) = some (r1, r2, r3, r4, r5, r6, r7, r8, r9, aH, aI, aJ) := h
 clear h
 replace H := Option.bind_eq_some_iff.mp H
 obtain ⟨⟨az, aF⟩, A20, H⟩ := H
 replace H : ((spec_l11Draw.f k l0 az aF 20).bind fun ab => (some (ab.1, ab.2.1, ab.2.2.1, ab.2.2.2.1, ab.2.2.2.2.1, ab.2.2.2.2.2.1, ab.2.2.2.2.2.2.1, ab.2.2.2.2.2.2.2.1, ab.2.2.2.2.2.2.2.2.1, ab.2.2.2.2.2.2.2.2.2.1, ab.2.2.2.2.2.2.2.2.2.2.1, ab.2.2.2.2.2.2.2.2.2.2.2.1))) = some (r1, r2, r3, r4, r5, r6, r7, r8, r9, aH, aI, aJ) := H
 have A2 := Aside0.mk A20
 clear A20
 replace H := Option.bind_eq_some_iff.mp H
 obtain ⟨⟨ad, ae, af, ah, aj, ak, am, an, aq, aw, ar, ax, aM, aN⟩, A30, H⟩ := H
 replace H : (some (ad, ae, af, ah, aj, ak, am, an, aq, aw, ar, ax)) = some (r1, r2, r3, r4, r5, r6, r7, r8, r9, aH, aI, aJ) := H
 have A3 := Aside0.mk A30
 clear A30
 simp only [Option.some.injEq, Prod.mk.injEq] at H
 obtain ⟨rfl, rfl, rfl, rfl, rfl, rfl, rfl, rfl, rfl, rfl, rfl, rfl⟩ := H
 go_enter Try.func21, Try.ntmps21
 go_wp2_with (first | ((with_reducible refine gate_dst (N := 2) rfl ?_); refine box_event ?hg (N := 2) ?hd (cs := #[.int .i64 0, .int .i64 0, .int .i64 0, .int .i64 0, .int .i64 0, .int .i64 0, .int .i64 0, .bool false, .int .i64 0, .bool false, .slice none 0 0, .slice none 0 0]) (t := 25) ?hr ?_; (case hd => rfl); (case hg => rfl); (case hr => first | (go_simp; done) | (go_simp; rfl)); intro aa hg bu hbox hb; have ac := Aside0.mk (hbox); have aQ := Aside0.mk ((by rw [hg]; exact (below_size wB) : w.heap.size ≤ aa)); replace HB := Aside0.mk (below_step wB hb); have aA := aQ; clear hb hbox hg) | ((with_reducible refine gate_callee (f := 37) rfl ?_); refine goesL_ (some 5) rfl rfl Try.func37 (by kernel_rfl) rfl #[.slice A0 l0.length c0] rfl wT ?_; (with_reducible refine (spec_l01Begin.calls k _ _ l0 az aF _ ?side1 ?side2 A2.out).mono ?_); (case side1 => exact Kd.C_below HR0.out wB); (case side2 => exact bs.out); rintro e bv ⟨rfl, hb⟩; refine ⟨_, rfl, ?_⟩; replace ac := Aside0.mk (blk_below (Bh ac) hb); replace HB := Aside0.mk (below_step wB hb); (try clear hb); (try clear hb2); (try clear hk); (try clear hi)) | ((with_reducible refine gate_dst (N := 3) rfl ?_); refine box_event ?hg (N := 3) ?hd (cs := #[.slice none 0 0, .int .i64 0, .int .u64 0]) (t := 64) ?hr ?_; (case hd => rfl); (case hg => rfl); (case hr => first | (go_simp; done) | (go_simp; rfl)); intro al hg aR hbox hb; have aB := Aside0.mk (hbox); have aL := Aside0.mk ((by rw [hg]; exact (below_size wB) : w.heap.size ≤ al)); replace HB := Aside0.mk (below_step wB hb); have bw := aL; have ai := Aside0.mk ((by rw [hg]; exact Nat.ne_of_lt (blk_lt (Bh ac)) : aa ≠ al)); replace ac := Aside0.mk (blk_below (Bh ac) hb); have ay := Aside0.mk ai.out.symm; clear hb hbox hg; have bq := ay.out; have br := ai.out; obtain ⟨⟨aX, aY, aZ⟩, a0, a1, a2⟩ := cells3 aB.out) | ((with_reducible refine gate_store (t := 64) (p := 3) rfl ?_); refine store_event (t := 64) (p := 3) (v := ?_) (w1 := (((aR.setCell ⟨al, 0, none⟩ (.slice A0 l0.length c0)).setCell ⟨al, 1, none⟩ (.int .i64 az)).setCell ⟨al, 2, none⟩ (.int .u64 aF))) ?hg ?ho ?hn ?hr ?_; (case ho => rfl); (case hg => rfl); (case hn => rfl); (case hr => first | (go_simp; done) | (go_simp; rfl)); intro aG hw; have n0_ : Aside0 (aG.heap[aa]? = some (.cells #[.int .i64 0, .int .i64 0, .int .i64 0, .int .i64 0, .int .i64 0, .int .i64 0, .int .i64 0, .bool false, .int .i64 0, .bool false, .slice none 0 0, .slice none 0 0] 25 (0, 0))) := ⟨(by rw [hw]; exact (by (with_reducible repeat (first | refine blk_drewN ?_ _ | refine blk_drew ?_ | refine blk_alloc ?_ _)); refine blk_far ?_ ai.out _; (with_reducible repeat (first | refine blk_drewN ?_ _ | refine blk_drew ?_ | refine blk_alloc ?_ _)); refine blk_far ?_ ai.out _; (with_reducible repeat (first | refine blk_drewN ?_ _ | refine blk_drew ?_ | refine blk_alloc ?_ _)); refine blk_far ?_ ai.out _; (with_reducible repeat (first | refine blk_drewN ?_ _ | refine blk_drew ?_ | refine blk_alloc ?_ _)); exact ac.out))⟩; have n1_ : Aside0 (aG.heap[al]? = some (.cells #[.slice A0 l0.length c0, .int .i64 az, .int .u64 aF] 64 (0, 0))) := ⟨(by rw [hw]; exact (by (with_reducible repeat (first | refine blk_drewN ?_ _ | refine blk_drew ?_ | refine blk_alloc ?_ _)); refine blk_put (cs := #[.slice A0 l0.length c0, .int .i64 az, .int .u64 0]) ?_ 2 _ rfl; (with_reducible repeat (first | refine blk_drewN ?_ _ | refine blk_drew ?_ | refine blk_alloc ?_ _)); refine blk_put (cs := #[.slice A0 l0.length c0, .int .i64 0, .int .u64 0]) ?_ 1 _ rfl; (with_reducible repeat (first | refine blk_drewN ?_ _ | refine blk_drew ?_ | refine blk_alloc ?_ _)); refine blk_put (cs := #[.slice none 0 0, .int .i64 0, .int .u64 0]) ?_ 0 _ rfl; (with_reducible repeat (first | refine blk_drewN ?_ _ | refine blk_drew ?_ | refine blk_alloc ?_ _)); exact aB.out))⟩; have n2_ : Aside0 (Below w.heap.size w aG) := ⟨(by rw [hw]; exact wB)⟩; clear hw; clear ac; clear aB; clear HB; have ac := n0_; have aB := n1_; have HB := n2_; clear n0_ n1_ n2_; have ag := Aside0.mk (show IsS64 w aG al l0 az aF from ⟨_, _, by (with_reducible repeat (first | refine blk_drewN ?_ _ | refine blk_drew ?_ | refine blk_alloc ?_ _)); exact aB.out, aL.out, HR0.out⟩)) | ((with_reducible refine gate_callee (f := 46) rfl ?_); refine goesL_ (some 6) rfl rfl Try.func46 (by kernel_rfl) rfl #[.pointer (some ⟨al, 0, none⟩), .int .i64 20] rfl wT ?_; (with_reducible refine (spec_l11Draw.calls k al l0 az aF 20 ad ae af ah aj ak am an aq aw ar ax aM aN w _ ?side1 ?side2 A3.out).mono ?_); (case side1 => repeat (first | (with_reducible first | exact ag.out | apply IsS64.alloc | apply IsS64.drewN | apply IsS64.drew | apply IsS64.set_1 | apply IsS64.set_2 | refine IsS64.far ?_ ay.out _) | exact ag.out)); (case side2 => repeat (first | (with_reducible first | exact HB.out | apply below_alloc | apply pw_below_drewN | apply below_drew1 | refine below_set ?_ (IsS64.ge ag.out) | refine below_set ?_ aA.out) | exact HB.out)); rintro e aS ⟨bx, bz, rfl, a3, a4, hi, hb, hk⟩; refine ⟨_, rfl, ?_⟩; replace ac := Aside0.mk (KeepBut.blk hk (g' := aa) (o := .cells #[.int .i64 0, .int .i64 0, .int .i64 0, .int .i64 0, .int .i64 0, .int .i64 0, .int .i64 0, .bool false, .int .i64 0, .bool false, .slice none 0 0, .slice none 0 0] 25 (0, 0)) (Bh ac) ai.out (by simp)); have aC := Aside0.mk (Kd.R_lower a3 (below_size (by repeat (first | (with_reducible first | exact HB.out | apply below_alloc | apply pw_below_drewN | apply below_drew1 | refine below_set ?_ (IsS64.ge ag.out) | refine below_set ?_ aA.out) | exact HB.out)))); have aD := Aside0.mk (Kd.R_lower a4 (below_size (by repeat (first | (with_reducible first | exact HB.out | apply below_alloc | apply pw_below_drewN | apply below_drew1 | refine below_set ?_ (IsS64.ge ag.out) | refine below_set ?_ aA.out) | exact HB.out)))); replace HB := Aside0.mk (hb); replace ag := Aside0.mk (hi); (try clear hb); (try clear hb2); (try clear hk); (try clear hi); (try clear a3); (try clear a4); obtain ⟨⟨a5, a6, a7, a8, a9, ba, bb, bc, bd, bf, aT, aU⟩, bg, bh, bi, bj, bk, bl, bm, bn, bo, bp, aV, aW⟩ := cells12 ac.out; obtain ⟨ao, ap, aO⟩ := Kd.R_slice aC.out; subst aO; obtain ⟨au, av, aP⟩ := Kd.R_slice aD.out; subst aP) | ((with_reducible refine gate_store (t := 25) (p := 2) rfl ?_); refine store_event (t := 25) (p := 2) (v := ?_) (w1 := ((((((((((((aS.setCell ⟨aa, 0, none⟩ (.int .i64 ad)).setCell ⟨aa, 1, none⟩ (.int .i64 ae)).setCell ⟨aa, 2, none⟩ (.int .i64 af)).setCell ⟨aa, 3, none⟩ (.int .i64 ah)).setCell ⟨aa, 4, none⟩ (.int .i64 aj)).setCell ⟨aa, 5, none⟩ (.int .i64 ak)).setCell ⟨aa, 6, none⟩ (.int .i64 am)).setCell ⟨aa, 7, none⟩ (.bool an)).setCell ⟨aa, 8, none⟩ (.int .i64 aq)).setCell ⟨aa, 9, none⟩ (.bool aw)).setCell ⟨aa, 10, none⟩ (.slice ao ar.length ap)).setCell ⟨aa, 11, none⟩ (.slice au ax.length av))) ?hg ?ho ?hn ?hr ?_; (case ho => rfl); (case hg => rfl); (case hn => rfl); (case hr => first | (go_simp; done) | (go_simp; rfl)); intro aE hw; have n0_ : Aside0 (Kd.R k60 60 aE w.heap.size (fun _ => True) (.slice ao ar.length ap) ar) := ⟨(by rw [hw]; exact (by (with_reducible repeat (first | apply Kd.R_alloc | apply Kd.R_drewN | apply Kd.R_drew)); exact Kd.R_mono (Kd.R_far (p := ⟨aa, 11, none⟩) (Kd.R_far (p := ⟨aa, 10, none⟩) (Kd.R_far (p := ⟨aa, 9, none⟩) (Kd.R_far (p := ⟨aa, 8, none⟩) (Kd.R_far (p := ⟨aa, 7, none⟩) (Kd.R_far (p := ⟨aa, 6, none⟩) (Kd.R_far (p := ⟨aa, 5, none⟩) (Kd.R_far (p := ⟨aa, 4, none⟩) (Kd.R_far (p := ⟨aa, 3, none⟩) (Kd.R_far (p := ⟨aa, 2, none⟩) (Kd.R_far (p := ⟨aa, 1, none⟩) (Kd.R_far (p := ⟨aa, 0, none⟩) (Kd.R_types aC.out ac.out (by decide)) (fun _ hk => hk.2) (.int .i64 ad)) (fun _ hk => hk.2) (.int .i64 ae)) (fun _ hk => hk.2) (.int .i64 af)) (fun _ hk => hk.2) (.int .i64 ah)) (fun _ hk => hk.2) (.int .i64 aj)) (fun _ hk => hk.2) (.int .i64 ak)) (fun _ hk => hk.2) (.int .i64 am)) (fun _ hk => hk.2) (.bool an)) (fun _ hk => hk.2) (.int .i64 aq)) (fun _ hk => hk.2) (.bool aw)) (fun _ hk => hk.2) (.slice ao ar.length ap)) (fun _ hk => hk.2) (.slice au ax.length av)) (fun _ hk => trivial)))⟩; have n1_ : Aside0 (Kd.R (Kd.int .u8) 5 aE w.heap.size (fun _ => True) (.slice au ax.length av) ax) := ⟨(by rw [hw]; exact (by (with_reducible repeat (first | apply Kd.R_alloc | apply Kd.R_drewN | apply Kd.R_drew)); exact Kd.R_mono (Kd.R_far (p := ⟨aa, 11, none⟩) (Kd.R_far (p := ⟨aa, 10, none⟩) (Kd.R_far (p := ⟨aa, 9, none⟩) (Kd.R_far (p := ⟨aa, 8, none⟩) (Kd.R_far (p := ⟨aa, 7, none⟩) (Kd.R_far (p := ⟨aa, 6, none⟩) (Kd.R_far (p := ⟨aa, 5, none⟩) (Kd.R_far (p := ⟨aa, 4, none⟩) (Kd.R_far (p := ⟨aa, 3, none⟩) (Kd.R_far (p := ⟨aa, 2, none⟩) (Kd.R_far (p := ⟨aa, 1, none⟩) (Kd.R_far (p := ⟨aa, 0, none⟩) (Kd.R_types aD.out ac.out (by decide)) (fun _ hk => hk.2) (.int .i64 ad)) (fun _ hk => hk.2) (.int .i64 ae)) (fun _ hk => hk.2) (.int .i64 af)) (fun _ hk => hk.2) (.int .i64 ah)) (fun _ hk => hk.2) (.int .i64 aj)) (fun _ hk => hk.2) (.int .i64 ak)) (fun _ hk => hk.2) (.int .i64 am)) (fun _ hk => hk.2) (.bool an)) (fun _ hk => hk.2) (.int .i64 aq)) (fun _ hk => hk.2) (.bool aw)) (fun _ hk => hk.2) (.slice ao ar.length ap)) (fun _ hk => hk.2) (.slice au ax.length av)) (fun _ hk => trivial)))⟩; have n2_ : Aside0 (aE.heap[aa]? = some (.cells #[.int .i64 ad, .int .i64 ae, .int .i64 af, .int .i64 ah, .int .i64 aj, .int .i64 ak, .int .i64 am, .bool an, .int .i64 aq, .bool aw, .slice ao ar.length ap, .slice au ax.length av] 25 (0, 0))) := ⟨(by rw [hw]; exact (by (with_reducible repeat (first | refine blk_drewN ?_ _ | refine blk_drew ?_ | refine blk_alloc ?_ _)); refine blk_put (cs := #[.int .i64 ad, .int .i64 ae, .int .i64 af, .int .i64 ah, .int .i64 aj, .int .i64 ak, .int .i64 am, .bool an, .int .i64 aq, .bool aw, .slice ao ar.length ap, .slice none 0 0]) ?_ 11 _ rfl; (with_reducible repeat (first | refine blk_drewN ?_ _ | refine blk_drew ?_ | refine blk_alloc ?_ _)); refine blk_put (cs := #[.int .i64 ad, .int .i64 ae, .int .i64 af, .int .i64 ah, .int .i64 aj, .int .i64 ak, .int .i64 am, .bool an, .int .i64 aq, .bool aw, .slice none 0 0, .slice none 0 0]) ?_ 10 _ rfl; (with_reducible repeat (first | refine blk_drewN ?_ _ | refine blk_drew ?_ | refine blk_alloc ?_ _)); refine blk_put (cs := #[.int .i64 ad, .int .i64 ae, .int .i64 af, .int .i64 ah, .int .i64 aj, .int .i64 ak, .int .i64 am, .bool an, .int .i64 aq, .bool false, .slice none 0 0, .slice none 0 0]) ?_ 9 _ rfl; (with_reducible repeat (first | refine blk_drewN ?_ _ | refine blk_drew ?_ | refine blk_alloc ?_ _)); refine blk_put (cs := #[.int .i64 ad, .int .i64 ae, .int .i64 af, .int .i64 ah, .int .i64 aj, .int .i64 ak, .int .i64 am, .bool an, .int .i64 0, .bool false, .slice none 0 0, .slice none 0 0]) ?_ 8 _ rfl; (with_reducible repeat (first | refine blk_drewN ?_ _ | refine blk_drew ?_ | refine blk_alloc ?_ _)); refine blk_put (cs := #[.int .i64 ad, .int .i64 ae, .int .i64 af, .int .i64 ah, .int .i64 aj, .int .i64 ak, .int .i64 am, .bool false, .int .i64 0, .bool false, .slice none 0 0, .slice none 0 0]) ?_ 7 _ rfl; (with_reducible repeat (first | refine blk_drewN ?_ _ | refine blk_drew ?_ | refine blk_alloc ?_ _)); refine blk_put (cs := #[.int .i64 ad, .int .i64 ae, .int .i64 af, .int .i64 ah, .int .i64 aj, .int .i64 ak, .int .i64 0, .bool false, .int .i64 0, .bool false, .slice none 0 0, .slice none 0 0]) ?_ 6 _ rfl; (with_reducible repeat (first | refine blk_drewN ?_ _ | refine blk_drew ?_ | refine blk_alloc ?_ _)); refine blk_put (cs := #[.int .i64 ad, .int .i64 ae, .int .i64 af, .int .i64 ah, .int .i64 aj, .int .i64 0, .int .i64 0, .bool false, .int .i64 0, .bool false, .slice none 0 0, .slice none 0 0]) ?_ 5 _ rfl; (with_reducible repeat (first | refine blk_drewN ?_ _ | refine blk_drew ?_ | refine blk_alloc ?_ _)); refine blk_put (cs := #[.int .i64 ad, .int .i64 ae, .int .i64 af, .int .i64 ah, .int .i64 0, .int .i64 0, .int .i64 0, .bool false, .int .i64 0, .bool false, .slice none 0 0, .slice none 0 0]) ?_ 4 _ rfl; (with_reducible repeat (first | refine blk_drewN ?_ _ | refine blk_drew ?_ | refine blk_alloc ?_ _)); refine blk_put (cs := #[.int .i64 ad, .int .i64 ae, .int .i64 af, .int .i64 0, .int .i64 0, .int .i64 0, .int .i64 0, .bool false, .int .i64 0, .bool false, .slice none 0 0, .slice none 0 0]) ?_ 3 _ rfl; (with_reducible repeat (first | refine blk_drewN ?_ _ | refine blk_drew ?_ | refine blk_alloc ?_ _)); refine blk_put (cs := #[.int .i64 ad, .int .i64 ae, .int .i64 0, .int .i64 0, .int .i64 0, .int .i64 0, .int .i64 0, .bool false, .int .i64 0, .bool false, .slice none 0 0, .slice none 0 0]) ?_ 2 _ rfl; (with_reducible repeat (first | refine blk_drewN ?_ _ | refine blk_drew ?_ | refine blk_alloc ?_ _)); refine blk_put (cs := #[.int .i64 ad, .int .i64 0, .int .i64 0, .int .i64 0, .int .i64 0, .int .i64 0, .int .i64 0, .bool false, .int .i64 0, .bool false, .slice none 0 0, .slice none 0 0]) ?_ 1 _ rfl; (with_reducible repeat (first | refine blk_drewN ?_ _ | refine blk_drew ?_ | refine blk_alloc ?_ _)); refine blk_put (cs := #[.int .i64 0, .int .i64 0, .int .i64 0, .int .i64 0, .int .i64 0, .int .i64 0, .int .i64 0, .bool false, .int .i64 0, .bool false, .slice none 0 0, .slice none 0 0]) ?_ 0 _ rfl; (with_reducible repeat (first | refine blk_drewN ?_ _ | refine blk_drew ?_ | refine blk_alloc ?_ _)); exact ac.out))⟩; have n3_ : Aside0 (IsS64 w aE al l0 aM aN) := ⟨(by rw [hw]; exact (by repeat (first | (with_reducible first | exact ag.out | apply IsS64.alloc | apply IsS64.drewN | apply IsS64.drew | apply IsS64.set_1 | apply IsS64.set_2 | refine IsS64.far ?_ ay.out _) | exact ag.out)))⟩; have n4_ : Aside0 (Below w.heap.size w aE) := ⟨(by rw [hw]; exact (by repeat (first | (with_reducible first | exact HB.out | apply below_alloc | apply pw_below_drewN | apply below_drew1 | refine below_set ?_ (IsS64.ge ag.out) | refine below_set ?_ aA.out) | exact HB.out)))⟩; clear hw; clear aC; clear aD; clear ac; clear ag; clear HB; have aC := n0_; have aD := n1_; have ac := n2_; have ag := n3_; have HB := n4_; clear n0_ n1_ n2_ n3_ n4_))
 refine bodyPost_ret (results_cell_row rfl _ _ aa 25 #[.int .i64 ad, .int .i64 ae, .int .i64 af, .int .i64 ah, .int .i64 aj, .int .i64 ak, .int .i64 am, .bool an, .int .i64 aq, .bool aw, .slice ao ar.length ap, .slice au ax.length av] (0, 0) _ rfl (Bh ac) Try.underlying25 rfl (by kernel_rfl)) rfl ?_
 exact ⟨_, _, by first | rfl | (simp [errW_none, errW_some] <;> rfl) | (simp [*, errW_none, errW_some] <;> rfl), by (with_reducible repeat (first | apply Kd.R_alloc | apply Kd.R_drewN | apply Kd.R_drew)); exact aC.out, by (with_reducible repeat (first | apply Kd.R_alloc | apply Kd.R_drewN | apply Kd.R_drew)); exact aD.out, by repeat (first | (with_reducible first | exact HB.out | apply below_alloc | apply pw_below_drewN | apply below_drew1 | refine below_set ?_ (IsS64.ge ag.out) | refine below_set ?_ aA.out) | exact HB.out)⟩

/-! ### impl_isSeq: function 57 -/
def impl_isSeq.f (a0 : Int) : Option (Bool) := if a0 ≥ 0 then (some (decide (a0 ≤ 4294967295))) else (some false)
set_option maxHeartbeats 60000000 in
set_option maxRecDepth 100000 in
theorem impl_isSeq.calls (a0 : Int) (r : Bool) (w : World) (h : impl_isSeq.f a0 = some r) :
 Calls Try.prog 57 #[.int .i64 a0] w fun e w' => e = .returned (.bool r) ∧ Drawn0 w w' := by
 have H : (if a0 ≥ 0 then (some (decide (a0 ≤ 4294967295))) else (some false)) = some r := h
 clear h
 by_cases c2 : a0 ≥ 0
 {
 rw [if_pos c2] at H
 have c2b0 : decide (0 ≤ a0) = true := decide_eq_true c2
 clear c2
 obtain rfl := Option.some.inj H
 go_enter Try.func57, Try.ntmps57
 go_wp2
 go_ret
 exact ⟨by first | rfl | (simp; done) | (simp [*]; done), by repeat (first | exact Drawn0.refl _ | apply Drawn0.step)⟩
 }
 {
 rw [if_neg c2] at H
 have c2b0 : decide (0 ≤ a0) = false := decide_eq_false c2
 clear c2
 obtain rfl := Option.some.inj H
 go_enter Try.func57, Try.ntmps57
 go_wp2
 go_ret
 exact ⟨by first | rfl | (simp; done) | (simp [*]; done), by repeat (first | exact Drawn0.refl _ | apply Drawn0.step)⟩
 }

/-! ### impl_okSegment: function 47 -/
mutual
def impl_okSegment.j0 : Nat → Bool → Int → Int → Int → Int → Int → Int → Int → Bool → Int → Bool → List (S60) → List Int → Option (Bool)
  | 0, _, _, _, _, _, _, _, _, _, _, _, _, _ => none
  | k + 1, am, ab, ac, ad, ae, af, ag, ah, ai, aj, ak, aa, al => if am = true then (some false) else (impl_okSegment.l0 k aa (aa.length : Int) 0)
def impl_okSegment.l0 : Nat → List (S60) → Int → Int → Option (Bool)
  | 0, _, _, _ => none
  | k + 1, ab, ac, aa => if aa < ac then (if 0 ≤ aa then (if aa < (ab.length : Int) then ((impl_isSeq.f ((rd_T60 ab aa).f0)).bind fun ad => (if ad = true then ((impl_isSeq.f ((rd_T60 ab aa).f1)).bind fun ae => (if ae = true then (impl_okSegment.l0 k ab ac (wrap64 (aa + 1))) else (some false))) else (some false))) else (none)) else (none)) else (some true)
end
def impl_okSegment.f (k : Nat) (ae : Int) (af : Int) (ag : Int) (ah : Int) (ad : Int) (ai : Int) (aj : Int) (ak : Bool) (ac : Int) (al : Bool) (aa : List (S60)) (ab : List Int) : Option (Bool) := (impl_isPort.f ae).bind fun am => (if am = true then ((impl_isPort.f af).bind fun an => (if an = true then ((impl_isSeq.f ag).bind fun ao => (if ao = true then ((impl_isSeq.f ah).bind fun ap => (if ap = true then (if ad < 0 then (impl_okSegment.j0 k true ae af ag ah ad ai aj ak ac al aa ab) else (if ad > 63 then (impl_okSegment.j0 k true ae af ag ah ad ai aj ak ac al aa ab) else ((impl_isPort.f ai).bind fun aq => (if aq = true then ((impl_isPort.f aj).bind fun ar => (if ar = true then (if ac < 0 then (impl_okSegment.j0 k true ae af ag ah ad ai aj ak ac al aa ab) else (if ac > 14 then (impl_okSegment.j0 k true ae af ag ah ad ai aj ak ac al aa ab) else (if ak = true then (impl_okSegment.j0 k (decide ((aa.length : Int) > 3)) ae af ag ah ad ai aj ak ac al aa ab) else (if ac = 0 then (impl_okSegment.j0 k (decide ((aa.length : Int) > 3)) ae af ag ah ad ai aj ak ac al aa ab) else (impl_okSegment.j0 k true ae af ag ah ad ai aj ak ac al aa ab))))) else (impl_okSegment.j0 k true ae af ag ah ad ai aj ak ac al aa ab))) else (impl_okSegment.j0 k true ae af ag ah ad ai aj ak ac al aa ab))))) else (impl_okSegment.j0 k true ae af ag ah ad ai aj ak ac al aa ab))) else (impl_okSegment.j0 k true ae af ag ah ad ai aj ak ac al aa ab))) else (impl_okSegment.j0 k true ae af ag ah ad ai aj ak ac al aa ab))) else (impl_okSegment.j0 k true ae af ag ah ad ai aj ak ac al aa ab))
theorem impl_okSegment.mono_l : ∀ k, (∀ y0 y1 y2 y3 y4 y5 y6 y7 y8 y9 aa ab ac, LeO (impl_okSegment.j0 k y0 y1 y2 y3 y4 y5 y6 y7 y8 y9 aa ab ac) (impl_okSegment.j0 (k + 1) y0 y1 y2 y3 y4 y5 y6 y7 y8 y9 aa ab ac)) ∧ (∀ y0 y1 y2, LeO (impl_okSegment.l0 k y0 y1 y2) (impl_okSegment.l0 (k + 1) y0 y1 y2))
  | 0 => ⟨fun _ _ _ _ _ _ _ _ _ _ _ _ _ r h => by simp [impl_okSegment.j0] at h, fun _ _ _ r h => by simp [impl_okSegment.l0] at h⟩
  | k + 1 => by
    obtain ⟨ih0, ih1⟩ := impl_okSegment.mono_l k
    refine ⟨?_, ?_⟩
    · intro y0 y1 y2 y3 y4 y5 y6 y7 y8 y9 aa ab ac
      unfold impl_okSegment.j0
      repeat' first
      | (with_reducible exact ih0 _ _ _ _ _ _ _ _ _ _ _ _ _)
      | (with_reducible exact ih1 _ _ _)
      | (with_reducible exact LeO.refl _)
      | (with_reducible exact LeO.none _)
      | (with_reducible refine LeO.ite ?_ ?_)
      | (with_reducible refine LeO.bind ?_ (fun _ => ?_))
      | exact ih0 _ _ _ _ _ _ _ _ _ _ _ _ _
      | exact ih1 _ _ _
      | exact LeO.none _
      | refine LeO.ite ?_ ?_
      | refine LeO.bind ?_ (fun _ => ?_)
    · intro y0 y1 y2
      unfold impl_okSegment.l0
      repeat' first
      | (with_reducible exact ih0 _ _ _ _ _ _ _ _ _ _ _ _ _)
      | (with_reducible exact ih1 _ _ _)
      | (with_reducible exact LeO.refl _)
      | (with_reducible exact LeO.none _)
      | (with_reducible refine LeO.ite ?_ ?_)
      | (with_reducible refine LeO.bind ?_ (fun _ => ?_))
      | exact ih0 _ _ _ _ _ _ _ _ _ _ _ _ _
      | exact ih1 _ _ _
      | exact LeO.none _
      | refine LeO.ite ?_ ?_
      | refine LeO.bind ?_ (fun _ => ?_)
theorem impl_okSegment.mono : ∀ a0 a1 a2 a3 a4 a5 a6 a7 a8 a9 aa ab k, LeO (impl_okSegment.f k a0 a1 a2 a3 a4 a5 a6 a7 a8 a9 aa ab) (impl_okSegment.f (k + 1) a0 a1 a2 a3 a4 a5 a6 a7 a8 a9 aa ab) := by
 intro a0 a1 a2 a3 a4 a5 a6 a7 a8 a9 aa ab k
 obtain ⟨ih0, ih1⟩ := impl_okSegment.mono_l k
 unfold impl_okSegment.f
 repeat' first
     | (with_reducible exact ih0 _ _ _ _ _ _ _ _ _ _ _ _ _)
     | (with_reducible exact ih1 _ _ _)
     | (with_reducible exact LeO.refl _)
     | (with_reducible exact LeO.none _)
     | (with_reducible refine LeO.ite ?_ ?_)
     | (with_reducible refine LeO.bind ?_ (fun _ => ?_))
     | exact ih0 _ _ _ _ _ _ _ _ _ _ _ _ _
     | exact ih1 _ _ _
     | exact LeO.none _
     | refine LeO.ite ?_ ?_
     | refine LeO.bind ?_ (fun _ => ?_)
set_option maxHeartbeats 60000000 in
set_option maxRecDepth 100000 in
theorem impl_okSegment.calls (k : Nat) (ak : Int) (aj : Int) (ai : Int) (ah : Int) (ad : Int) (ag : Int) (ae : Int) (af : Bool) (ab : Int) (al : Bool) (A0_10 : Option Addr) (aZ : Nat) (aa : List (S60)) (A0_11 : Option Addr) (a0 : Nat) (ac : List Int) (r : Bool) (w : World) (hr0_10 : Kd.C k60 w A0_10 aa.length aa) (hc0_10 : aa.length ≤ aZ) (hr0_11 : Kd.C (Kd.int .u8) w A0_11 ac.length ac) (hc0_11 : ac.length ≤ a0) (h : impl_okSegment.f k ak aj ai ah ad ag ae af ab al aa ac = some r) :
 Calls Try.prog 47 #[.agg #[.int .i64 ak, .int .i64 aj, .int .i64 ai, .int .i64 ah, .int .i64 ad, .int .i64 ag, .int .i64 ae, .bool af, .int .i64 ab, .bool al, .slice A0_10 aa.length aZ, .slice A0_11 ac.length a0]] w fun e w' => e = .returned (.bool r) ∧ Below w.heap.size w w' := by
 have hu25 := Try.underlying25
 have hu60 := Try.underlying60
 have HR0_10 := Aside0.mk hr0_10
 have bG := Aside0.mk hc0_10
 clear hr0_10 hc0_10
 have HR0_11 := Aside0.mk hr0_11
 have bH := Aside0.mk hc0_11
 clear hr0_11 hc0_11
 have HB := Aside0.mk (Below.refl w.heap.size w)
 have H : ((impl_isPort.f ak).bind fun bk => (if bk = true then ((impl_isPort.f aj).bind fun aE => (if aE = true then ((impl_isSeq.f ai).bind fun ar => (if ar = true then ((impl_isSeq.f ah).bind fun aq => (if aq = true then (if ad < 0 then (impl_okSegment.j0 k true ak aj ai ah ad ag ae af ab al aa ac) else (if ad > 63 then (impl_okSegment.j0 k true ak aj ai ah ad ag ae af ab al aa ac) else ((impl_isPort.f ag).bind fun ao => (if ao = true then ((impl_isPort.f ae).bind fun an => (if an = true then (if ab < 0 then (impl_okSegment.j0 k true ak aj ai ah ad ag ae af ab al aa ac) else (if ab > 14 then (impl_okSegment.j0 k true ak aj ai ah ad ag ae af ab al aa ac) else (if af = true then (impl_okSegment.j0 k (decide ((aa.length : Int) > 3)) ak aj ai ah ad ag ae af ab al aa ac) else (if ab = 0 then (impl_okSegment.j0 k (decide ((aa.length : Int) > 3)) ak aj ai ah ad ag ae af ab al aa ac) else (impl_okSegment.j0 k true ak aj ai ah ad ag ae af ab al aa ac))))) else (impl_okSegment.j0 k true ak aj ai ah ad ag ae af ab al aa ac))) else (impl_okSegment.j0 k true ak aj ai ah ad ag ae af ab al aa ac))))) else (impl_okSegment.j0 k true ak aj ai ah ad ag ae af ab al aa ac))) else (impl_okSegment.j0 k true ak aj ai ah ad ag ae af ab al aa ac))) else (impl_okSegment.j0 k true ak aj ai ah ad ag ae af ab al aa ac))) else (impl_okSegment.j0 k true ak aj ai ah ad ag ae af ab al aa ac))) = some r := h
 clear h
 have bn := Aside0.mk H
 clear H
 go_enter Try.func47, Try.ntmps47
 go_upto_region 1 with (first | ((with_reducible refine gate_dst (N := 1) rfl ?_); (try (refine gate_guard (by rfl) ?_; dsimp only)); refine box_event ?hg (N := 1) ?hd (cs := #[.int .i64 ak, .int .i64 aj, .int .i64 ai, .int .i64 ah, .int .i64 ad, .int .i64 ag, .int .i64 ae, .bool af, .int .i64 ab, .bool al, .slice A0_10 aa.length aZ, .slice A0_11 ac.length a0]) (t := 25) ?hr ?_; (case hd => rfl); (case hg => rfl); (case hr => first | (go_simp; done) | (go_simp; rfl)); intro a9 hg bK hbox hb; have ap := Aside0.mk (hbox); have bq := Aside0.mk ((by rw [hg]; exact (below_size wB) : w.heap.size ≤ a9)); replace HB := Aside0.mk (below_step wB hb); have bL := bq; clear hb hbox hg))
 (try simp only [Act.put, List.setIfInBounds_toArray, List.set_cons_zero, List.set_cons_succ])
 go_cut [74] (fun bI wc => ∃ (kq : Nat) (bf : Bool), bI = .bool bf ∧ Aside0 (impl_okSegment.j0 kq bf ak aj ai ah ad ag ae af ab al aa ac = some r) ∧ Aside0 (kq ≤ k) ∧ Aside0 (wc.heap[a9]? = some (.cells #[.int .i64 ak, .int .i64 aj, .int .i64 ai, .int .i64 ah, .int .i64 ad, .int .i64 ag, .int .i64 ae, .bool af, .int .i64 ab, .bool al, (.slice A0_10 aa.length aZ), (.slice A0_11 ac.length a0)] 25 (0, 0))) ∧ Aside0 (Below w.heap.size w wc))
 case first => (
 have H := bn.out
 clear bn
 replace H := Option.bind_eq_some_iff.mp H
 obtain ⟨bk, A10020, H⟩ := H
 replace H : (if bk = true then ((impl_isPort.f aj).bind fun aE => (if aE = true then ((impl_isSeq.f ai).bind fun ar => (if ar = true then ((impl_isSeq.f ah).bind fun aq => (if aq = true then (if ad < 0 then (impl_okSegment.j0 k true ak aj ai ah ad ag ae af ab al aa ac) else (if ad > 63 then (impl_okSegment.j0 k true ak aj ai ah ad ag ae af ab al aa ac) else ((impl_isPort.f ag).bind fun ao => (if ao = true then ((impl_isPort.f ae).bind fun an => (if an = true then (if ab < 0 then (impl_okSegment.j0 k true ak aj ai ah ad ag ae af ab al aa ac) else (if ab > 14 then (impl_okSegment.j0 k true ak aj ai ah ad ag ae af ab al aa ac) else (if af = true then (impl_okSegment.j0 k (decide ((aa.length : Int) > 3)) ak aj ai ah ad ag ae af ab al aa ac) else (if ab = 0 then (impl_okSegment.j0 k (decide ((aa.length : Int) > 3)) ak aj ai ah ad ag ae af ab al aa ac) else (impl_okSegment.j0 k true ak aj ai ah ad ag ae af ab al aa ac))))) else (impl_okSegment.j0 k true ak aj ai ah ad ag ae af ab al aa ac))) else (impl_okSegment.j0 k true ak aj ai ah ad ag ae af ab al aa ac))))) else (impl_okSegment.j0 k true ak aj ai ah ad ag ae af ab al aa ac))) else (impl_okSegment.j0 k true ak aj ai ah ad ag ae af ab al aa ac))) else (impl_okSegment.j0 k true ak aj ai ah ad ag ae af ab al aa ac))) else (impl_okSegment.j0 k true ak aj ai ah ad ag ae af ab al aa ac)) = some r := H
 have A1002 := Aside0.mk A10020
 clear A10020
 by_cases a1 : bk = true
 subst a1
 have H1 : ((impl_isPort.f aj).bind fun aE => (if aE = true then ((impl_isSeq.f ai).bind fun ar => (if ar = true then ((impl_isSeq.f ah).bind fun aq => (if aq = true then (if ad < 0 then (impl_okSegment.j0 k true ak aj ai ah ad ag ae af ab al aa ac) else (if ad > 63 then (impl_okSegment.j0 k true ak aj ai ah ad ag ae af ab al aa ac) else ((impl_isPort.f ag).bind fun ao => (if ao = true then ((impl_isPort.f ae).bind fun an => (if an = true then (if ab < 0 then (impl_okSegment.j0 k true ak aj ai ah ad ag ae af ab al aa ac) else (if ab > 14 then (impl_okSegment.j0 k true ak aj ai ah ad ag ae af ab al aa ac) else (if af = true then (impl_okSegment.j0 k (decide ((aa.length : Int) > 3)) ak aj ai ah ad ag ae af ab al aa ac) else (if ab = 0 then (impl_okSegment.j0 k (decide ((aa.length : Int) > 3)) ak aj ai ah ad ag ae af ab al aa ac) else (impl_okSegment.j0 k true ak aj ai ah ad ag ae af ab al aa ac))))) else (impl_okSegment.j0 k true ak aj ai ah ad ag ae af ab al aa ac))) else (impl_okSegment.j0 k true ak aj ai ah ad ag ae af ab al aa ac))))) else (impl_okSegment.j0 k true ak aj ai ah ad ag ae af ab al aa ac))) else (impl_okSegment.j0 k true ak aj ai ah ad ag ae af ab al aa ac))) else (impl_okSegment.j0 k true ak aj ai ah ad ag ae af ab al aa ac))) = some r := by rw [if_pos rfl] at H; exact H
 clear H
 have H := H1
 clear H1
 replace H := Option.bind_eq_some_iff.mp H
 obtain ⟨aE, A10040, H⟩ := H
 replace H : (if aE = true then ((impl_isSeq.f ai).bind fun ar => (if ar = true then ((impl_isSeq.f ah).bind fun aq => (if aq = true then (if ad < 0 then (impl_okSegment.j0 k true ak aj ai ah ad ag ae af ab al aa ac) else (if ad > 63 then (impl_okSegment.j0 k true ak aj ai ah ad ag ae af ab al aa ac) else ((impl_isPort.f ag).bind fun ao => (if ao = true then ((impl_isPort.f ae).bind fun an => (if an = true then (if ab < 0 then (impl_okSegment.j0 k true ak aj ai ah ad ag ae af ab al aa ac) else (if ab > 14 then (impl_okSegment.j0 k true ak aj ai ah ad ag ae af ab al aa ac) else (if af = true then (impl_okSegment.j0 k (decide ((aa.length : Int) > 3)) ak aj ai ah ad ag ae af ab al aa ac) else (if ab = 0 then (impl_okSegment.j0 k (decide ((aa.length : Int) > 3)) ak aj ai ah ad ag ae af ab al aa ac) else (impl_okSegment.j0 k true ak aj ai ah ad ag ae af ab al aa ac))))) else (impl_okSegment.j0 k true ak aj ai ah ad ag ae af ab al aa ac))) else (impl_okSegment.j0 k true ak aj ai ah ad ag ae af ab al aa ac))))) else (impl_okSegment.j0 k true ak aj ai ah ad ag ae af ab al aa ac))) else (impl_okSegment.j0 k true ak aj ai ah ad ag ae af ab al aa ac))) else (impl_okSegment.j0 k true ak aj ai ah ad ag ae af ab al aa ac)) = some r := H
 have A1004 := Aside0.mk A10040
 clear A10040
 by_cases a2 : aE = true
 subst a2
 have H1 : ((impl_isSeq.f ai).bind fun ar => (if ar = true then ((impl_isSeq.f ah).bind fun aq => (if aq = true then (if ad < 0 then (impl_okSegment.j0 k true ak aj ai ah ad ag ae af ab al aa ac) else (if ad > 63 then (impl_okSegment.j0 k true ak aj ai ah ad ag ae af ab al aa ac) else ((impl_isPort.f ag).bind fun ao => (if ao = true then ((impl_isPort.f ae).bind fun an => (if an = true then (if ab < 0 then (impl_okSegment.j0 k true ak aj ai ah ad ag ae af ab al aa ac) else (if ab > 14 then (impl_okSegment.j0 k true ak aj ai ah ad ag ae af ab al aa ac) else (if af = true then (impl_okSegment.j0 k (decide ((aa.length : Int) > 3)) ak aj ai ah ad ag ae af ab al aa ac) else (if ab = 0 then (impl_okSegment.j0 k (decide ((aa.length : Int) > 3)) ak aj ai ah ad ag ae af ab al aa ac) else (impl_okSegment.j0 k true ak aj ai ah ad ag ae af ab al aa ac))))) else (impl_okSegment.j0 k true ak aj ai ah ad ag ae af ab al aa ac))) else (impl_okSegment.j0 k true ak aj ai ah ad ag ae af ab al aa ac))))) else (impl_okSegment.j0 k true ak aj ai ah ad ag ae af ab al aa ac))) else (impl_okSegment.j0 k true ak aj ai ah ad ag ae af ab al aa ac))) = some r := by rw [if_pos rfl] at H; exact H
 clear H
 have H := H1
 clear H1
 replace H := Option.bind_eq_some_iff.mp H
 obtain ⟨ar, A10060, H⟩ := H
 replace H : (if ar = true then ((impl_isSeq.f ah).bind fun aq => (if aq = true then (if ad < 0 then (impl_okSegment.j0 k true ak aj ai ah ad ag ae af ab al aa ac) else (if ad > 63 then (impl_okSegment.j0 k true ak aj ai ah ad ag ae af ab al aa ac) else ((impl_isPort.f ag).bind fun ao => (if ao = true then ((impl_isPort.f ae).bind fun an => (if an = true then (if ab < 0 then (impl_okSegment.j0 k true ak aj ai ah ad ag ae af ab al aa ac) else (if ab > 14 then (impl_okSegment.j0 k true ak aj ai ah ad ag ae af ab al aa ac) else (if af = true then (impl_okSegment.j0 k (decide ((aa.length : Int) > 3)) ak aj ai ah ad ag ae af ab al aa ac) else (if ab = 0 then (impl_okSegment.j0 k (decide ((aa.length : Int) > 3)) ak aj ai ah ad ag ae af ab al aa ac) else (impl_okSegment.j0 k true ak aj ai ah ad ag ae af ab al aa ac))))) else (impl_okSegment.j0 k true ak aj ai ah ad ag ae af ab al aa ac))) else (impl_okSegment.j0 k true ak aj ai ah ad ag ae af ab al aa ac))))) else (impl_okSegment.j0 k true ak aj ai ah ad ag ae af ab al aa ac))) else (impl_okSegment.j0 k true ak aj ai ah ad ag ae af ab al aa ac)) = some r := H
 have A1006 := Aside0.mk A10060
 clear A10060
 by_cases a3 : ar = true
 subst a3
 have H1 : ((impl_isSeq.f ah).bind fun aq => (if aq = true then (if ad < 0 then (impl_okSegment.j0 k true ak aj ai ah ad ag ae af ab al aa ac) else (if ad > 63 then (impl_okSegment.j0 k true ak aj ai ah ad ag ae af ab al aa ac) else ((impl_isPort.f ag).bind fun ao => (if ao = true then ((impl_isPort.f ae).bind fun an => (if an = true then (if ab < 0 then (impl_okSegment.j0 k true ak aj ai ah ad ag ae af ab al aa ac) else (if ab > 14 then (impl_okSegment.j0 k true ak aj ai ah ad ag ae af ab al aa ac) else (if af = true then (impl_okSegment.j0 k (decide ((aa.length : Int) > 3)) ak aj ai ah ad ag ae af ab al aa ac) else (if ab = 0 then (impl_okSegment.j0 k (decide ((aa.length : Int) > 3)) ak aj ai ah ad ag ae af ab al aa ac) else (impl_okSegment.j0 k true ak aj ai ah ad ag ae af ab al aa ac))))) else (impl_okSegment.j0 k true ak aj ai ah ad ag ae af ab al aa ac))) else (impl_okSegment.j0 k true ak aj ai ah ad ag ae af ab al aa ac))))) else (impl_okSegment.j0 k true ak aj ai ah ad ag ae af ab al aa ac))) = some r := by rw [if_pos rfl] at H; exact H
 clear H
 have H := H1
 clear H1
 replace H := Option.bind_eq_some_iff.mp H
 obtain ⟨aq, A10080, H⟩ := H
 replace H : (if aq = true then (if ad < 0 then (impl_okSegment.j0 k true ak aj ai ah ad ag ae af ab al aa ac) else (if ad > 63 then (impl_okSegment.j0 k true ak aj ai ah ad ag ae af ab al aa ac) else ((impl_isPort.f ag).bind fun ao => (if ao = true then ((impl_isPort.f ae).bind fun an => (if an = true then (if ab < 0 then (impl_okSegment.j0 k true ak aj ai ah ad ag ae af ab al aa ac) else (if ab > 14 then (impl_okSegment.j0 k true ak aj ai ah ad ag ae af ab al aa ac) else (if af = true then (impl_okSegment.j0 k (decide ((aa.length : Int) > 3)) ak aj ai ah ad ag ae af ab al aa ac) else (if ab = 0 then (impl_okSegment.j0 k (decide ((aa.length : Int) > 3)) ak aj ai ah ad ag ae af ab al aa ac) else (impl_okSegment.j0 k true ak aj ai ah ad ag ae af ab al aa ac))))) else (impl_okSegment.j0 k true ak aj ai ah ad ag ae af ab al aa ac))) else (impl_okSegment.j0 k true ak aj ai ah ad ag ae af ab al aa ac))))) else (impl_okSegment.j0 k true ak aj ai ah ad ag ae af ab al aa ac)) = some r := H
 have A1008 := Aside0.mk A10080
 clear A10080
 by_cases a4 : aq = true
 subst a4
 have H1 : (if ad < 0 then (impl_okSegment.j0 k true ak aj ai ah ad ag ae af ab al aa ac) else (if ad > 63 then (impl_okSegment.j0 k true ak aj ai ah ad ag ae af ab al aa ac) else ((impl_isPort.f ag).bind fun ao => (if ao = true then ((impl_isPort.f ae).bind fun an => (if an = true then (if ab < 0 then (impl_okSegment.j0 k true ak aj ai ah ad ag ae af ab al aa ac) else (if ab > 14 then (impl_okSegment.j0 k true ak aj ai ah ad ag ae af ab al aa ac) else (if af = true then (impl_okSegment.j0 k (decide ((aa.length : Int) > 3)) ak aj ai ah ad ag ae af ab al aa ac) else (if ab = 0 then (impl_okSegment.j0 k (decide ((aa.length : Int) > 3)) ak aj ai ah ad ag ae af ab al aa ac) else (impl_okSegment.j0 k true ak aj ai ah ad ag ae af ab al aa ac))))) else (impl_okSegment.j0 k true ak aj ai ah ad ag ae af ab al aa ac))) else (impl_okSegment.j0 k true ak aj ai ah ad ag ae af ab al aa ac))))) = some r := by rw [if_pos rfl] at H; exact H
 clear H
 have H := H1
 clear H1
 by_cases av : ad < 0
 rw [if_pos av] at H
 have c1010b0 : decide (ad < 0) = true := decide_eq_true av
 clear av
 (first | rw [c1010b0] | (simp only [i64_w, i32_w]; rw [c1010b0]) | skip)
 have H' := Aside0.mk H
 clear H
 rotate_left
 rw [if_neg av] at H
 have c1010b0 : decide (ad < 0) = false := decide_eq_false av
 clear av
 (first | rw [c1010b0] | (simp only [i64_w, i32_w]; rw [c1010b0]) | skip)
 by_cases aw : ad > 63
 rw [if_pos aw] at H
 have c1011b0 : decide (63 < ad) = true := decide_eq_true aw
 clear aw
 have H' := Aside0.mk H
 clear H
 rotate_left
 rw [if_neg aw] at H
 have c1011b0 : decide (63 < ad) = false := decide_eq_false aw
 clear aw
 replace H := Option.bind_eq_some_iff.mp H
 obtain ⟨ao, A10120, H⟩ := H
 replace H : (if ao = true then ((impl_isPort.f ae).bind fun an => (if an = true then (if ab < 0 then (impl_okSegment.j0 k true ak aj ai ah ad ag ae af ab al aa ac) else (if ab > 14 then (impl_okSegment.j0 k true ak aj ai ah ad ag ae af ab al aa ac) else (if af = true then (impl_okSegment.j0 k (decide ((aa.length : Int) > 3)) ak aj ai ah ad ag ae af ab al aa ac) else (if ab = 0 then (impl_okSegment.j0 k (decide ((aa.length : Int) > 3)) ak aj ai ah ad ag ae af ab al aa ac) else (impl_okSegment.j0 k true ak aj ai ah ad ag ae af ab al aa ac))))) else (impl_okSegment.j0 k true ak aj ai ah ad ag ae af ab al aa ac))) else (impl_okSegment.j0 k true ak aj ai ah ad ag ae af ab al aa ac)) = some r := H
 have A1012 := Aside0.mk A10120
 clear A10120
 by_cases a5 : ao = true
 subst a5
 have H1 : ((impl_isPort.f ae).bind fun an => (if an = true then (if ab < 0 then (impl_okSegment.j0 k true ak aj ai ah ad ag ae af ab al aa ac) else (if ab > 14 then (impl_okSegment.j0 k true ak aj ai ah ad ag ae af ab al aa ac) else (if af = true then (impl_okSegment.j0 k (decide ((aa.length : Int) > 3)) ak aj ai ah ad ag ae af ab al aa ac) else (if ab = 0 then (impl_okSegment.j0 k (decide ((aa.length : Int) > 3)) ak aj ai ah ad ag ae af ab al aa ac) else (impl_okSegment.j0 k true ak aj ai ah ad ag ae af ab al aa ac))))) else (impl_okSegment.j0 k true ak aj ai ah ad ag ae af ab al aa ac))) = some r := by rw [if_pos rfl] at H; exact H
 clear H
 have H := H1
 clear H1
 replace H := Option.bind_eq_some_iff.mp H
 obtain ⟨an, A10140, H⟩ := H
 replace H : (if an = true then (if ab < 0 then (impl_okSegment.j0 k true ak aj ai ah ad ag ae af ab al aa ac) else (if ab > 14 then (impl_okSegment.j0 k true ak aj ai ah ad ag ae af ab al aa ac) else (if af = true then (impl_okSegment.j0 k (decide ((aa.length : Int) > 3)) ak aj ai ah ad ag ae af ab al aa ac) else (if ab = 0 then (impl_okSegment.j0 k (decide ((aa.length : Int) > 3)) ak aj ai ah ad ag ae af ab al aa ac) else (impl_okSegment.j0 k true ak aj ai ah ad ag ae af ab al aa ac))))) else (impl_okSegment.j0 k true ak aj ai ah ad ag ae af ab al aa ac)) = some r := H
 have A1014 := Aside0.mk A10140
 clear A10140
 by_cases a6 : an = true
 subst a6
 have H1 : (if ab < 0 then (impl_okSegment.j0 k true ak aj ai ah ad ag ae af ab al aa ac) else (if ab > 14 then (impl_okSegment.j0 k true ak aj ai ah ad ag ae af ab al aa ac) else (if af = true then (impl_okSegment.j0 k (decide ((aa.length : Int) > 3)) ak aj ai ah ad ag ae af ab al aa ac) else (if ab = 0 then (impl_okSegment.j0 k (decide ((aa.length : Int) > 3)) ak aj ai ah ad ag ae af ab al aa ac) else (impl_okSegment.j0 k true ak aj ai ah ad ag ae af ab al aa ac))))) = some r := by rw [if_pos rfl] at H; exact H
 clear H
 have H := H1
 clear H1
 by_cases ax : ab < 0
 rw [if_pos ax] at H
 have c1016b0 : decide (ab < 0) = true := decide_eq_true ax
 clear ax
 have H' := Aside0.mk H
 clear H
 rotate_left
 rw [if_neg ax] at H
 have c1016b0 : decide (ab < 0) = false := decide_eq_false ax
 clear ax
 by_cases ay : ab > 14
 rw [if_pos ay] at H
 have c1017b0 : decide (14 < ab) = true := decide_eq_true ay
 clear ay
 have H' := Aside0.mk H
 clear H
 rotate_left
 rw [if_neg ay] at H
 have c1017b0 : decide (14 < ab) = false := decide_eq_false ay
 clear ay
 by_cases a7 : af = true
 subst a7
 have H1 : (impl_okSegment.j0 k (decide ((aa.length : Int) > 3)) ak aj ai ah ad ag ae true ab al aa ac) = some r := by rw [if_pos rfl] at H; exact H
 clear H
 have H := H1
 clear H1
 have H' := Aside0.mk H
 clear H
 rotate_left
 replace a7 := Bool.eq_false_iff.mpr a7
 subst a7
 have H1 : (if ab = 0 then (impl_okSegment.j0 k (decide ((aa.length : Int) > 3)) ak aj ai ah ad ag ae false ab al aa ac) else (impl_okSegment.j0 k true ak aj ai ah ad ag ae false ab al aa ac)) = some r := by rw [if_neg (show ¬ (false = true) by decide)] at H; exact H
 clear H
 have H := H1
 clear H1
 by_cases au : ab = 0
 rw [if_pos au] at H
 have c1019b0 : (ab == 0) = true := beq_iff_eq.mpr au
 have c1019b1 : (ab != 0) = false := bne_eq_false_iff_eq.mpr au
 clear au
 have H' := Aside0.mk H
 clear H
 rotate_left
 rw [if_neg au] at H
 have c1019b0 : (ab == 0) = false := beq_eq_false_iff_ne.mpr au
 have c1019b1 : (ab != 0) = true := bne_iff_ne.mpr au
 have H' := Aside0.mk H
 clear H
 rotate_left
 replace a6 := Bool.eq_false_iff.mpr a6
 subst a6
 have H1 : (impl_okSegment.j0 k true ak aj ai ah ad ag ae af ab al aa ac) = some r := by rw [if_neg (show ¬ (false = true) by decide)] at H; exact H
 clear H
 have H := H1
 clear H1
 have H' := Aside0.mk H
 clear H
 rotate_left
 replace a5 := Bool.eq_false_iff.mpr a5
 subst a5
 have H1 : (impl_okSegment.j0 k true ak aj ai ah ad ag ae af ab al aa ac) = some r := by rw [if_neg (show ¬ (false = true) by decide)] at H; exact H
 clear H
 have H := H1
 clear H1
 have H' := Aside0.mk H
 clear H
 rotate_left
 replace a4 := Bool.eq_false_iff.mpr a4
 subst a4
 have H1 : (impl_okSegment.j0 k true ak aj ai ah ad ag ae af ab al aa ac) = some r := by rw [if_neg (show ¬ (false = true) by decide)] at H; exact H
 clear H
 have H := H1
 clear H1
 have H' := Aside0.mk H
 clear H
 rotate_left
 replace a3 := Bool.eq_false_iff.mpr a3
 subst a3
 have H1 : (impl_okSegment.j0 k true ak aj ai ah ad ag ae af ab al aa ac) = some r := by rw [if_neg (show ¬ (false = true) by decide)] at H; exact H
 clear H
 have H := H1
 clear H1
 have H' := Aside0.mk H
 clear H
 rotate_left
 replace a2 := Bool.eq_false_iff.mpr a2
 subst a2
 have H1 : (impl_okSegment.j0 k true ak aj ai ah ad ag ae af ab al aa ac) = some r := by rw [if_neg (show ¬ (false = true) by decide)] at H; exact H
 clear H
 have H := H1
 clear H1
 have H' := Aside0.mk H
 clear H
 rotate_left
 replace a1 := Bool.eq_false_iff.mpr a1
 subst a1
 have H1 : (impl_okSegment.j0 k true ak aj ai ah ad ag ae af ab al aa ac) = some r := by rw [if_neg (show ¬ (false = true) by decide)] at H; exact H
 clear H
 have H := H1
 clear H1
 have H' := Aside0.mk H
 clear H
 rotate_left
 all_goals (
 obtain ⟨⟨aF, aG, aH, aI, aJ, aK, aL, aM, aN, aO, aA, aB⟩, aP, aQ, aR, aS, aT, aU, aV, aW, aX, aY, aC, aD⟩ := cells12 ap.out
 go_wp2_with (first | (go_at_call 44; (with_reducible refine (impl_isPort.calls ak _ _ A1002.out).mono ?_); rintro e w' ⟨rfl, ⟨nd, rfl⟩⟩) | (go_at_call 44; (with_reducible refine (impl_isPort.calls aj _ _ A1004.out).mono ?_); rintro e w' ⟨rfl, ⟨nd, rfl⟩⟩) | (go_at_call 57; (with_reducible refine (impl_isSeq.calls ai _ _ A1006.out).mono ?_); rintro e w' ⟨rfl, ⟨nd, rfl⟩⟩) | (go_at_call 57; (with_reducible refine (impl_isSeq.calls ah _ _ A1008.out).mono ?_); rintro e w' ⟨rfl, ⟨nd, rfl⟩⟩) | (go_at_call 44; (with_reducible refine (impl_isPort.calls ag _ _ A1012.out).mono ?_); rintro e w' ⟨rfl, ⟨nd, rfl⟩⟩) | (go_at_call 44; (with_reducible refine (impl_isPort.calls ae _ _ A1014.out).mono ?_); rintro e w' ⟨rfl, ⟨nd, rfl⟩⟩))
 all_goals (try (rename_i h_; exfalso; cases h_; done))
 all_goals (try (rename_i h_ h2_; exfalso; cases h_; done))
 go_meet
 )
 iterate 4 (
 focus (
 case rel => exact ⟨_, (true), (by first | rfl | (simp; done) | (simp [*]; done)), H', ⟨by first | omega | exact Nat.le_refl _⟩, ⟨Bh ap⟩, ⟨wB⟩⟩
 )
 )
 iterate 2 (
 focus (
 case rel => exact ⟨_, (decide ((aa.length : Int) > 3)), (by first | rfl | (simp; done) | (simp [*]; done)), H', ⟨by first | omega | exact Nat.le_refl _⟩, ⟨Bh ap⟩, ⟨wB⟩⟩
 )
 )
 all_goals (
 case rel => exact ⟨_, (true), (by first | rfl | (simp; done) | (simp [*]; done)), H', ⟨by first | omega | exact Nat.le_refl _⟩, ⟨Bh ap⟩, ⟨wB⟩⟩
 )
 )
 case rest => (
 clear bn
 try clear c0
 try clear a1
 try clear a2
 try clear a3
 try clear a4
 try clear av
 try clear c1010b0
 try clear aw
 try clear c1011b0
 try clear a5
 try clear a6
 try clear ax
 try clear c1016b0
 try clear ay
 try clear c1017b0
 try clear a7
 try clear au
 try clear c1019b0
 try clear c1019b1
 try clear aF aG aA aB aH aI aJ aK aL aM aN aO aP aQ aC aD aR aS aT aU aV aW aX aY
 obtain ⟨kq, bf, rfl, HA, HJ1, ap, HB⟩ := hcut
 cases kq with
 | zero => exact absurd HA.out (by simp [impl_okSegment.j0])
 | succ bo => {
 have H := HA.out
 clear HA
 simp only [impl_okSegment.j0] at H
 by_cases ba : bf = true
 {
 subst ba
 have H1 : (some false) = some r := by rw [if_pos rfl] at H; exact H
 clear H
 have H := H1
 clear H1
 obtain rfl := Option.some.inj H
 go_wp2
 all_goals (try (rename_i h_; exfalso; cases h_; done))
 all_goals (try (rename_i h_ h2_; exfalso; cases h_; done))
 go_ret
 exact ⟨by first | rfl | (simp [errW_none, errW_some] <;> rfl) | (simp [*, errW_none, errW_some] <;> rfl), wB⟩
 }
 {
 replace ba := Bool.eq_false_iff.mpr ba
 subst ba
 have H1 : (impl_okSegment.l0 bo aa (aa.length : Int) 0) = some r := by rw [if_neg (show ¬ (false = true) by decide)] at H; exact H
 clear H
 have H := H1
 clear H1
 have H' := Aside0.mk H
 clear H
 obtain ⟨⟨aF, aG, aH, aI, aJ, aK, aL, aM, aN, aO, aA, aB⟩, aP, aQ, aR, aS, aT, aU, aV, aW, aX, aY, aC, aD⟩ := cells12 ap.out
 go_wp2
 all_goals (try (rename_i h_; exfalso; cases h_; done))
 all_goals (try (rename_i h_ h2_; exfalso; cases h_; done))
 go_loopg [78] bo (fun kq bJ w' => ∃ (am : Int), bJ = .int .i64 am ∧ Aside0 (impl_okSegment.l0 kq aa (aa.length : Int) am = some r) ∧ Aside0 (kq ≤ bo) ∧ Aside0 (w'.heap[a9]? = some (.cells #[.int .i64 ak, .int .i64 aj, .int .i64 ai, .int .i64 ah, .int .i64 ad, .int .i64 ag, .int .i64 ae, .bool af, .int .i64 ab, .bool al, (.slice A0_10 aa.length aZ), (.slice A0_11 ac.length a0)] 25 (0, 0))) ∧ Aside0 (Below w.heap.size w w'))
 case atStart => exact ⟨(0), (by first | rfl | (simp; done) | (simp [*]; done)), H', ⟨Nat.le_refl _⟩, ⟨Bh ap⟩, ⟨wB⟩⟩
 case round => (
 clear H'
 try clear c0
 try clear a1
 try clear a2
 try clear a3
 try clear a4
 try clear av
 try clear c1010b0
 try clear aw
 try clear c1011b0
 try clear a5
 try clear a6
 try clear ax
 try clear c1016b0
 try clear ay
 try clear c1017b0
 try clear a7
 try clear au
 try clear c1019b0
 try clear c1019b1
 try clear ba
 try clear aF aG aA aB aH aI aJ aK aL aM aN aO aP aQ aC aD aR aS aT aU aV aW aX aY
 obtain ⟨am, rfl, HA, bu, ap, HB⟩ := hrel
 cases gk with
 | zero => exact absurd HA.out (by simp [impl_okSegment.l0])
 | succ k2 => {
 have H := HA.out
 clear HA
 simp only [impl_okSegment.l0] at H
 by_cases a8 : am < (aa.length : Int)
 rw [if_pos a8] at H
 have c2002b0 : decide (am < (aa.length : Int)) = true := decide_eq_true a8
 clear a8
 by_cases bg : 0 ≤ am
 rw [if_pos bg] at H
 have c2003b0 : decide (0 ≤ am) = true := decide_eq_true bg
 clear bg
 by_cases bh : am < (aa.length : Int)
 rw [if_pos bh] at H
 have c2004b0 : decide (am < (aa.length : Int)) = true := decide_eq_true bh
 clear bh
 replace H := Option.bind_eq_some_iff.mp H
 obtain ⟨bp, A20050, H⟩ := H
 replace H : (if bp = true then ((impl_isSeq.f ((rd_T60 aa am).f1)).bind fun bd => (if bd = true then (impl_okSegment.l0 k2 aa (aa.length : Int) (wrap64 (am + 1))) else (some false))) else (some false)) = some r := H
 have A2005 := Aside0.mk A20050
 clear A20050
 by_cases bi : bp = true
 subst bi
 have H1 : ((impl_isSeq.f ((rd_T60 aa am).f1)).bind fun bd => (if bd = true then (impl_okSegment.l0 k2 aa (aa.length : Int) (wrap64 (am + 1))) else (some false))) = some r := by rw [if_pos rfl] at H; exact H
 clear H
 have H := H1
 clear H1
 replace H := Option.bind_eq_some_iff.mp H
 obtain ⟨bd, A20070, H⟩ := H
 replace H : (if bd = true then (impl_okSegment.l0 k2 aa (aa.length : Int) (wrap64 (am + 1))) else (some false)) = some r := H
 have A2007 := Aside0.mk A20070
 clear A20070
 by_cases bj : bd = true
 subst bj
 have H1 : (impl_okSegment.l0 k2 aa (aa.length : Int) (wrap64 (am + 1))) = some r := by rw [if_pos rfl] at H; exact H
 clear H
 have H := H1
 clear H1
 have H' := Aside0.mk H
 clear H
 have bq1_ : True := trivial
 have bq2_ : True := trivial
 rotate_left
 replace bj := Bool.eq_false_iff.mpr bj
 subst bj
 have H1 : (some false) = some r := by rw [if_neg (show ¬ (false = true) by decide)] at H; exact H
 clear H
 have H := H1
 clear H1
 obtain rfl := Option.some.inj H
 have bq1_ : True := trivial
 rotate_left
 replace bi := Bool.eq_false_iff.mpr bi
 subst bi
 have H1 : (some false) = some r := by rw [if_neg (show ¬ (false = true) by decide)] at H; exact H
 clear H
 have H := H1
 clear H1
 obtain rfl := Option.some.inj H
 rotate_left
 rw [if_neg bh] at H
 exact absurd H (by simp)
 rw [if_neg bg] at H
 exact absurd H (by simp)
 rw [if_neg a8] at H
 have c2002b0 : decide (am < (aa.length : Int)) = false := decide_eq_false a8
 clear a8
 obtain rfl := Option.some.inj H
 rotate_left
 iterate 3 (
 focus (
 have p413 : 0 ≤ (am : Int) := of_decide_eq_true (by first | (with_reducible assumption) | assumption)
 have q413 : am < (aa.length : Int) := of_decide_eq_true (by first | (with_reducible assumption) | assumption)
 obtain ⟨ad413, e413, hx413_0, hx413_1⟩ := at_T60 HR0_10.out am p413 q413
 cases e413
 replace hx413_0 := (HB.out.cell (World.block_lt_of_cell? w _ hx413_0)).trans hx413_0
 replace hx413_1 := (HB.out.cell (World.block_lt_of_cell? w _ hx413_1)).trans hx413_1
 replace p413 := eq_true p413
 replace q413 := eq_true q413
 go_wp2_with (first | ((with_reducible refine gate_dst (N := 4) rfl ?_); (try (refine gate_guard (by rfl) ?_; dsimp only)); refine box_event ?hg (N := 4) ?hd (cs := #[.int .i64 0, .int .i64 0]) (t := 60) ?hr ?_; (case hd => rfl); (case hg => rfl); (case hr => first | (go_simp; done) | (go_simp; rfl)); intro bb hg br hbox hb; have bc := Aside0.mk (hbox); have bs := Aside0.mk ((by rw [hg]; exact (below_size wB) : w.heap.size ≤ bb)); replace HB := Aside0.mk (below_step wB hb); have bM := bs; have az := Aside0.mk ((by rw [hg]; exact Nat.ne_of_lt (blk_lt (Bh ap)) : a9 ≠ bb)); replace ap := Aside0.mk (blk_below (Bh ap) hb); have bm := Aside0.mk az.out.symm; clear hb hbox hg; have bE := bm.out; have bF := az.out; obtain ⟨⟨bv, bw⟩, bx, bz⟩ := cells2 bc.out) | ((with_reducible refine gate_store (t := 60) (p := 4) rfl ?_); refine store_event (t := 60) (p := 4) (v := ?_) (w1 := ((br.setCell ⟨bb, 0, none⟩ (.int .i64 ((rd_T60 aa am).f0))).setCell ⟨bb, 1, none⟩ (.int .i64 ((rd_T60 aa am).f1)))) ?hg ?ho ?hn ?hr ?_; (case ho => rfl); (case hg => rfl); (case hn => rfl); (case hr => first | (go_simp; done) | (go_simp; rfl)); intro bl hw; have n0_ : Aside0 (bl.heap[a9]? = some (.cells #[.int .i64 ak, .int .i64 aj, .int .i64 ai, .int .i64 ah, .int .i64 ad, .int .i64 ag, .int .i64 ae, .bool af, .int .i64 ab, .bool al, .slice (some ad413) aa.length aZ, .slice A0_11 ac.length a0] 25 (0, 0))) := ⟨(by rw [hw]; exact (by (with_reducible repeat (first | refine blk_drewN ?_ _ | refine blk_drew ?_ | refine blk_alloc ?_ _)); refine blk_far ?_ az.out _; (with_reducible repeat (first | refine blk_drewN ?_ _ | refine blk_drew ?_ | refine blk_alloc ?_ _)); refine blk_far ?_ az.out _; (with_reducible repeat (first | refine blk_drewN ?_ _ | refine blk_drew ?_ | refine blk_alloc ?_ _)); exact ap.out))⟩; have n1_ : Aside0 (bl.heap[bb]? = some (.cells #[.int .i64 ((rd_T60 aa am).f0), .int .i64 ((rd_T60 aa am).f1)] 60 (0, 0))) := ⟨(by rw [hw]; exact (by (with_reducible repeat (first | refine blk_drewN ?_ _ | refine blk_drew ?_ | refine blk_alloc ?_ _)); refine blk_put (cs := #[.int .i64 ((rd_T60 aa am).f0), .int .i64 0]) ?_ 1 _ rfl; (with_reducible repeat (first | refine blk_drewN ?_ _ | refine blk_drew ?_ | refine blk_alloc ?_ _)); refine blk_put (cs := #[.int .i64 0, .int .i64 0]) ?_ 0 _ rfl; (with_reducible repeat (first | refine blk_drewN ?_ _ | refine blk_drew ?_ | refine blk_alloc ?_ _)); exact bc.out))⟩; have n2_ : Aside0 (Below w.heap.size w bl) := ⟨(by rw [hw]; exact wB)⟩; clear hw; clear ap; clear bc; clear HB; have ap := n0_; have bc := n1_; have HB := n2_; clear n0_ n1_ n2_; obtain ⟨⟨bA, bB⟩, bC, bD⟩ := cells2 bc.out) | (go_at_call 57; (with_reducible refine (impl_isSeq.calls ((rd_T60 aa am).f0) (by first | (clear bq1_; exact true) | exact false) _ A2005.out).mono ?_); rintro e w' ⟨rfl, ⟨nd, rfl⟩⟩) | (go_at_call 57; (with_reducible refine (impl_isSeq.calls ((rd_T60 aa am).f1) (by first | (clear bq2_; exact true) | exact false) _ A2007.out).mono ?_); rintro e w' ⟨rfl, ⟨nd, rfl⟩⟩))
 all_goals (try (rename_i h_; exfalso; cases h_; done))
 all_goals (try (rename_i h_ h2_; exfalso; cases h_; done))
 )
 rotate_left
 )
 rotate_right 3
 {
 go_roundg k2
 case measure => have := HJ1.out; have := bu.out; omega
 case rel => exact ⟨(wrap64 (am + 1)), (by first | rfl | (simp; done) | (simp [*]; done)), H', ⟨by have := HJ1.out; have := bu.out; omega⟩, ⟨Bh ap⟩, ⟨wB⟩⟩
 }
 iterate 2 (
 focus (
 go_ret
 exact ⟨by first | rfl | (simp [errW_none, errW_some] <;> rfl) | (simp [*, errW_none, errW_some] <;> rfl), wB⟩
 )
 )
 {
 go_wp2
 all_goals (try (rename_i h_; exfalso; cases h_; done))
 all_goals (try (rename_i h_ h2_; exfalso; cases h_; done))
 go_ret
 exact ⟨by first | rfl | (simp [errW_none, errW_some] <;> rfl) | (simp [*, errW_none, errW_some] <;> rfl), wB⟩
 }
 }
 )
 }
 }
 )

end Go.Proofs.Ytfllcmeakcbiaaa.PFnOneBit
