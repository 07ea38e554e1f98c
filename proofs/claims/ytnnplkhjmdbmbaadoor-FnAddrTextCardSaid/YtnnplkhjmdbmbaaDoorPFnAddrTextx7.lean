-- Written for this claim by a program of this session (wip/mkprint.py: the print, turned at a few places). Not trusted: Lean checks it.
import Derived.Test.YtnnplkhjmdbmbaaDoorPFnAddrTextx0
import Derived.Test.YtnnplkhjmdbmbaaDoorPFnAddrTextx1
import Derived.Test.YtnnplkhjmdbmbaaDoorPFnAddrTextx2
import Derived.Test.YtnnplkhjmdbmbaaDoorPFnAddrTextx3
import Derived.Test.YtnnplkhjmdbmbaaDoorPFnAddrTextx5
import Derived.Test.YtnnplkhjmdbmbaaDoorPFnAddrTextx6
namespace Go.Proofs.YtnnplkhjmdbmbaaDoor.PFnAddrText
open Go.RowKit Go.Proofs.YtnnplkhjmdbmbaaDoorW.PrintWords Go.Proofs.YtnnplkhjmdbmbaaDoorW.PrintLast Go.Proofs.YtnnplkhjmdbmbaaDoorW.PrintMore
attribute [local go_sem] max2_int min2_int max_two min_two max_three min_three max_four min_four   -- for this text's walks alone
set_option linter.unusedVariables false
set_option linter.unusedSimpArgs false

/-! ### impl_ReadPrefix: function 19 -/
def impl_ReadPrefix.f (k : Nat) (a0 : ByteArray) : Option (Int × Int × Int) := (strings_Cut.f a0 (⟨#[47]⟩ : ByteArray)).bind fun bt251 => ((impl_ReadAddr.f k bt251.1).bind fun bt254 => ((impl_decimal.f k bt251.2.1 2).bind fun bt256 => (if bt254.2 = 0 then (if bt256.2 = true then ((impl_okPrefix.f bt254.1 bt256.1).bind fun t259 => (if t259 = true then (some (bt254.1, bt256.1, 0)) else (some (0, 0, 6)))) else (some (0, 0, 6))) else (some (0, 0, 6)))))
theorem impl_ReadPrefix.mono : ∀ a0 k, LeO (impl_ReadPrefix.f k a0) (impl_ReadPrefix.f (k + 1) a0) := by
 intro a0 k
 unfold impl_ReadPrefix.f
 repeat' first
     | (with_reducible exact impl_ReadAddr.mono _ _)
     | (with_reducible exact impl_decimal.mono _ _ _)
     | (with_reducible exact LeO.refl _)
     | (with_reducible exact LeO.none _)
     | (with_reducible refine LeO.ite ?_ ?_)
     | (with_reducible refine LeO.bind ?_ (fun _ => ?_))
     | exact impl_ReadAddr.mono _ _
     | exact impl_decimal.mono _ _ _
     | exact LeO.none _
     | refine LeO.ite ?_ ?_
     | refine LeO.bind ?_ (fun _ => ?_)
set_option maxHeartbeats 60000000 in
set_option maxRecDepth 100000 in
theorem impl_ReadPrefix.calls (k : Nat) (a0 : ByteArray) (r1 : Int) (r2 : Int) (r3 : Int) (w : World) (hd : Door w) (h : impl_ReadPrefix.f k a0 = some (r1, r2, r3)) :
 Calls Tryd.prog 19 #[.string a0] w fun e w' => e = .returned (.tuple #[.agg #[.int .i64 r1, .int .i64 r2], .int .i64 r3]) ∧ Below w.heap.size w w' := by
 have hu36 := Tryd.underlying36
 have HD := Aside0.mk hd
 clear hd
 have HB := Aside0.mk (Below.refl w.heap.size w)
 have H : ((strings_Cut.f a0 (⟨#[47]⟩ : ByteArray)).bind fun bt251 => ((impl_ReadAddr.f k bt251.1).bind fun bt254 => ((impl_decimal.f k bt251.2.1 2).bind fun bt256 => (if bt254.2 = 0 then (if bt256.2 = true then ((impl_okPrefix.f bt254.1 bt256.1).bind fun t259 => (if t259 = true then (some (bt254.1, bt256.1, 0)) else (some (0, 0, 6)))) else (some (0, 0, 6))) else (some (0, 0, 6)))))) = some (r1, r2, r3) := h
 clear h
 replace H := Option.bind_eq_some_iff.mp H
 obtain ⟨⟨t251, t252, t253⟩, A20, H⟩ := H
 replace H : ((impl_ReadAddr.f k t251).bind fun bt254 => ((impl_decimal.f k t252 2).bind fun bt256 => (if bt254.2 = 0 then (if bt256.2 = true then ((impl_okPrefix.f bt254.1 bt256.1).bind fun t259 => (if t259 = true then (some (bt254.1, bt256.1, 0)) else (some (0, 0, 6)))) else (some (0, 0, 6))) else (some (0, 0, 6))))) = some (r1, r2, r3) := H
 have A2 := Aside0.mk A20
 clear A20
 replace H := Option.bind_eq_some_iff.mp H
 obtain ⟨⟨t254, t255⟩, A30, H⟩ := H
 replace H : ((impl_decimal.f k t252 2).bind fun bt256 => (if t255 = 0 then (if bt256.2 = true then ((impl_okPrefix.f t254 bt256.1).bind fun t259 => (if t259 = true then (some (t254, bt256.1, 0)) else (some (0, 0, 6)))) else (some (0, 0, 6))) else (some (0, 0, 6)))) = some (r1, r2, r3) := H
 have A3 := Aside0.mk A30
 clear A30
 replace H := Option.bind_eq_some_iff.mp H
 obtain ⟨⟨t256, t257⟩, A40, H⟩ := H
 replace H : (if t255 = 0 then (if t257 = true then ((impl_okPrefix.f t254 t256).bind fun t259 => (if t259 = true then (some (t254, t256, 0)) else (some (0, 0, 6)))) else (some (0, 0, 6))) else (some (0, 0, 6))) = some (r1, r2, r3) := H
 have A4 := Aside0.mk A40
 clear A40
 by_cases c5 : t255 = 0
 {
 rw [if_pos c5] at H
 have c5b0 : (t255 == 0) = true := beq_iff_eq.mpr c5
 have c5b1 : (t255 != 0) = false := bne_eq_false_iff_eq.mpr c5
 clear c5
 by_cases c6 : t257 = true
 {
 subst c6
 have H1 : ((impl_okPrefix.f t254 t256).bind fun t259 => (if t259 = true then (some (t254, t256, 0)) else (some (0, 0, 6)))) = some (r1, r2, r3) := by rw [if_pos rfl] at H; exact H
 clear H
 have H := H1
 clear H1
 replace H := Option.bind_eq_some_iff.mp H
 obtain ⟨t259, A70, H⟩ := H
 replace H : (if t259 = true then (some (t254, t256, 0)) else (some (0, 0, 6))) = some (r1, r2, r3) := H
 have A7 := Aside0.mk A70
 clear A70
 by_cases c8 : t259 = true
 {
 subst c8
 have H1 : (some (t254, t256, 0)) = some (r1, r2, r3) := by rw [if_pos rfl] at H; exact H
 clear H
 have H := H1
 clear H1
 simp only [Option.some.injEq, Prod.mk.injEq] at H
 obtain ⟨rfl, rfl, rfl⟩ := H
 go_enter Tryd.func19, Tryd.ntmps19
 go_wp2_with (first | ((with_reducible refine gate_dst (N := 2) rfl ?_); refine box_event ?hg (N := 2) ?hd (cs := #[.int .i64 0, .int .i64 0]) (t := 36) ?hr ?_; (case hd => rfl); (case hg => rfl); (case hr => first | (go_simp; done) | (go_simp; rfl)); intro gb250 hg w1001 hbox hb; have n0_ := Aside0.mk (below_step wB hb); have n1_ := Aside0.mk (hbox); have n2_ := Aside0.mk ((by rw [hg]; exact (below_size wB) : w.heap.size ≤ gb250)); have n3_ := Aside0.mk ((by rw [hg]; exact (below_size wB) : w.heap.size ≤ gb250)); clear HB; have HB := n0_; have BK250 := n1_; have GW250 := n2_; have GE250 := n3_; clear n0_ n1_ n2_ n3_; clear hb hbox hg) | ((with_reducible refine gate_callee (f := 46) rfl ?_); refine goesL_ (some 14) rfl rfl Tryd.func46 (by kernel_rfl) rfl #[.string a0, .string (⟨#[47]⟩ : ByteArray)] rfl wT ?_; (with_reducible refine (strings_Cut.calls a0 (⟨#[47]⟩ : ByteArray) t251 t252 t253 _ ?side1 A2.out).mono ?_); (case side1 => repeat (first | exact (Door.c_below HD.out HB.out) | (with_reducible refine Door.c_alloc ?_ _) | (with_reducible refine Door.c_drewN ?_ _) | (with_reducible refine Door.c_drew ?_))); rintro e w' ⟨rfl, ⟨nd, rfl⟩⟩; refine ⟨_, rfl, ?_⟩; (try (rw [drewN_self w1001]; generalize hq_ : World.drewN w1001 _ = w1001; have n0_ := Aside0.mk (blk_at hq_ BK250.out); have n1_ := Aside0.mk (below_at hq_ HB.out); clear hq_ BK250 HB; have BK250 := n0_; have HB := n1_; clear n0_ n1_; (try (obtain ⟨⟨hcyBK250_0, hcyBK250_1⟩, hfyBK250_0, hfyBK250_1⟩ := cells2 BK250.out))))) | ((with_reducible refine gate_callee (f := 14) rfl ?_); refine goesL_ (some 20) rfl rfl Tryd.func14 (by kernel_rfl) rfl #[.string t251] rfl wT ?_; (with_reducible refine (impl_ReadAddr.calls k t251 t254 t255 _ ?side1 A3.out).mono ?_); (case side1 => repeat (first | exact (Door.c_below HD.out HB.out) | (with_reducible refine Door.c_alloc ?_ _) | (with_reducible refine Door.c_drewN ?_ _) | (with_reducible refine Door.c_drew ?_))); rintro e w1002 ⟨rfl, hb⟩; refine ⟨_, rfl, ?_⟩; have n0_ := Aside0.mk (blk_below (Bh BK250) hb); have n1_ := Aside0.mk (below_step wB hb); clear BK250; clear HB; have BK250 := n0_; have HB := n1_; clear n0_ n1_; (try clear hb); (try clear hb2); (try clear hk); (try clear hi)) | ((with_reducible refine gate_callee (f := 37) rfl ?_); refine goesL_ (some 25) rfl rfl Tryd.func37 (by kernel_rfl) rfl #[.string t252, .int .i64 2] rfl wT ?_; (with_reducible refine (impl_decimal.calls k t252 2 t256 true _ A4.out).mono ?_); rintro e w1003 ⟨rfl, hb⟩; refine ⟨_, rfl, ?_⟩; have n0_ := Aside0.mk (blk_below (Bh BK250) hb); have n1_ := Aside0.mk (below_step wB hb); clear BK250; clear HB; have BK250 := n0_; have HB := n1_; clear n0_ n1_; (try clear hb); (try clear hb2); (try clear hk); (try clear hi)) | ((with_reducible refine gate_dst (N := 11) rfl ?_); refine box_event ?hg (N := 11) ?hd (cs := #[.int .i64 0, .int .i64 0]) (t := 36) ?hr ?_; (case hd => rfl); (case hg => rfl); (case hr => first | (go_simp; done) | (go_simp; rfl)); intro gb258 hg w1004 hbox hb; have n0_ := Aside0.mk (blk_below (Bh BK250) hb); have n1_ := Aside0.mk (below_step wB hb); have n2_ := Aside0.mk (hbox); have n3_ := Aside0.mk ((by rw [hg]; exact (below_size wB) : w.heap.size ≤ gb258)); have n4_ := Aside0.mk ((by rw [hg]; exact (below_size wB) : w.heap.size ≤ gb258)); have n5_ := Aside0.mk ((by rw [hg]; exact Nat.ne_of_lt (blk_lt (Bh BK250)) : gb250 ≠ gb258)); have n6_ := Aside0.mk ((by rw [hg]; exact Nat.ne_of_gt (blk_lt (Bh BK250)) : gb258 ≠ gb250)); clear BK250; clear HB; have BK250 := n0_; have HB := n1_; have BK258 := n2_; have GW258 := n3_; have GE258 := n4_; have NB250_258 := n5_; have NB258_250 := n6_; clear n0_ n1_ n2_ n3_ n4_ n5_ n6_; clear hb hbox hg; have hnb1005 := NB258_250.out; have hnc1005 := NB250_258.out; obtain ⟨⟨hcz1006_0, hcz1006_1⟩, hfz1006_0, hfz1006_1⟩ := cells2 BK258.out) | ((with_reducible refine gate_store (t := 36) (p := 11) rfl ?_); refine store_event (t := 36) (p := 11) (v := ?_) (w1 := ((w1004.setCell ⟨gb258, 0, none⟩ (.int .i64 t254)).setCell ⟨gb258, 1, none⟩ (.int .i64 t256))) ?hg ?ho ?hn ?hr ?_; (case ho => rfl); (case hg => rfl); (case hn => rfl); (case hr => first | (go_simp; done) | (go_simp; rfl)); intro w1007 hw; have n0_ : Aside0 (w1007.heap[gb250]? = some (.cells #[.int .i64 0, .int .i64 0] 36 (0, 0))) := ⟨(by rw [hw]; exact (by (with_reducible repeat (first | refine blk_drewN ?_ _ | refine blk_drew ?_ | refine blk_alloc ?_ _)); refine blk_far ?_ NB250_258.out _; (with_reducible repeat (first | refine blk_drewN ?_ _ | refine blk_drew ?_ | refine blk_alloc ?_ _)); refine blk_far ?_ NB250_258.out _; (with_reducible repeat (first | refine blk_drewN ?_ _ | refine blk_drew ?_ | refine blk_alloc ?_ _)); exact BK250.out))⟩; have n1_ : Aside0 (w1007.heap[gb258]? = some (.cells #[.int .i64 t254, .int .i64 t256] 36 (0, 0))) := ⟨(by rw [hw]; exact (by (with_reducible repeat (first | refine blk_drewN ?_ _ | refine blk_drew ?_ | refine blk_alloc ?_ _)); refine blk_put (cs := #[.int .i64 t254, .int .i64 0]) ?_ 1 _ rfl; (with_reducible repeat (first | refine blk_drewN ?_ _ | refine blk_drew ?_ | refine blk_alloc ?_ _)); refine blk_put (cs := #[.int .i64 0, .int .i64 0]) ?_ 0 _ rfl; (with_reducible repeat (first | refine blk_drewN ?_ _ | refine blk_drew ?_ | refine blk_alloc ?_ _)); exact BK258.out))⟩; have n2_ : Aside0 (Below w.heap.size w w1007) := ⟨(by rw [hw]; exact wB)⟩; clear hw; clear BK250; clear BK258; clear HB; have BK250 := n0_; have BK258 := n1_; have HB := n2_; clear n0_ n1_ n2_; obtain ⟨⟨hcz1008_0, hcz1008_1⟩, hfz1008_0, hfz1008_1⟩ := cells2 BK258.out) | (go_at_call 47; (with_reducible refine (impl_okPrefix.calls t254 t256 true _ A7.out).mono ?_); rintro e w1009 ⟨rfl, hb⟩; have n0_ := Aside0.mk (blk_below (Bh BK250) hb); have n1_ := Aside0.mk (blk_below (Bh BK258) hb); have n2_ := Aside0.mk (below_step wB hb); clear BK250; clear BK258; clear HB; have BK250 := n0_; have BK258 := n1_; have HB := n2_; clear n0_ n1_ n2_; (try clear hb); (try clear hb2); (try clear hk); (try clear hi); obtain ⟨⟨hcz1010_0, hcz1010_1⟩, hfz1010_0, hfz1010_1⟩ := cells2 BK258.out; obtain ⟨⟨hcz1011_0, hcz1011_1⟩, hfz1011_0, hfz1011_1⟩ := cells2 BK250.out) | ((with_reducible refine gate_store (t := 36) (p := 2) rfl ?_); refine store_event (t := 36) (p := 2) (v := ?_) (w1 := ((w1009.setCell ⟨gb250, 0, none⟩ (.int .i64 t254)).setCell ⟨gb250, 1, none⟩ (.int .i64 t256))) ?hg ?ho ?hn ?hr ?_; (case ho => rfl); (case hg => rfl); (case hn => rfl); (case hr => first | (go_simp; done) | (go_simp; rfl)); intro w1012 hw; have n0_ : Aside0 (w1012.heap[gb250]? = some (.cells #[.int .i64 t254, .int .i64 t256] 36 (0, 0))) := ⟨(by rw [hw]; exact (by (with_reducible repeat (first | refine blk_drewN ?_ _ | refine blk_drew ?_ | refine blk_alloc ?_ _)); refine blk_put (cs := #[.int .i64 t254, .int .i64 0]) ?_ 1 _ rfl; (with_reducible repeat (first | refine blk_drewN ?_ _ | refine blk_drew ?_ | refine blk_alloc ?_ _)); refine blk_put (cs := #[.int .i64 0, .int .i64 0]) ?_ 0 _ rfl; (with_reducible repeat (first | refine blk_drewN ?_ _ | refine blk_drew ?_ | refine blk_alloc ?_ _)); exact BK250.out))⟩; have n1_ : Aside0 (w1012.heap[gb258]? = some (.cells #[.int .i64 t254, .int .i64 t256] 36 (0, 0))) := ⟨(by rw [hw]; exact (by (with_reducible repeat (first | refine blk_drewN ?_ _ | refine blk_drew ?_ | refine blk_alloc ?_ _)); refine blk_far ?_ NB258_250.out _; (with_reducible repeat (first | refine blk_drewN ?_ _ | refine blk_drew ?_ | refine blk_alloc ?_ _)); refine blk_far ?_ NB258_250.out _; (with_reducible repeat (first | refine blk_drewN ?_ _ | refine blk_drew ?_ | refine blk_alloc ?_ _)); exact BK258.out))⟩; have n2_ : Aside0 (Below w.heap.size w w1012) := ⟨(by rw [hw]; exact wB)⟩; clear hw; clear BK250; clear BK258; clear HB; have BK250 := n0_; have BK258 := n1_; have HB := n2_; clear n0_ n1_ n2_))
 refine bodyPost_ret (results_ct rfl _ _ gb250 36 #[.int .i64 t254, .int .i64 t256] (0, 0) _ rfl (Bh BK250) Tryd.underlying36 rfl (by kernel_rfl)) rfl ?_
 exact ⟨by first | rfl | (simp [errW_none, errW_some] <;> rfl) | (simp [*, errW_none, errW_some] <;> rfl), wB⟩
 }
 {
 replace c8 := Bool.eq_false_iff.mpr c8
 subst c8
 have H1 : (some (0, 0, 6)) = some (r1, r2, r3) := by rw [if_neg (show ¬ (false = true) by decide)] at H; exact H
 clear H
 have H := H1
 clear H1
 simp only [Option.some.injEq, Prod.mk.injEq] at H
 obtain ⟨rfl, rfl, rfl⟩ := H
 go_enter Tryd.func19, Tryd.ntmps19
 go_wp2_with (first | ((with_reducible refine gate_dst (N := 2) rfl ?_); refine box_event ?hg (N := 2) ?hd (cs := #[.int .i64 0, .int .i64 0]) (t := 36) ?hr ?_; (case hd => rfl); (case hg => rfl); (case hr => first | (go_simp; done) | (go_simp; rfl)); intro gb250 hg w1001 hbox hb; have n0_ := Aside0.mk (below_step wB hb); have n1_ := Aside0.mk (hbox); have n2_ := Aside0.mk ((by rw [hg]; exact (below_size wB) : w.heap.size ≤ gb250)); have n3_ := Aside0.mk ((by rw [hg]; exact (below_size wB) : w.heap.size ≤ gb250)); clear HB; have HB := n0_; have BK250 := n1_; have GW250 := n2_; have GE250 := n3_; clear n0_ n1_ n2_ n3_; clear hb hbox hg) | ((with_reducible refine gate_callee (f := 46) rfl ?_); refine goesL_ (some 14) rfl rfl Tryd.func46 (by kernel_rfl) rfl #[.string a0, .string (⟨#[47]⟩ : ByteArray)] rfl wT ?_; (with_reducible refine (strings_Cut.calls a0 (⟨#[47]⟩ : ByteArray) t251 t252 t253 _ ?side1 A2.out).mono ?_); (case side1 => repeat (first | exact (Door.c_below HD.out HB.out) | (with_reducible refine Door.c_alloc ?_ _) | (with_reducible refine Door.c_drewN ?_ _) | (with_reducible refine Door.c_drew ?_))); rintro e w' ⟨rfl, ⟨nd, rfl⟩⟩; refine ⟨_, rfl, ?_⟩; (try (rw [drewN_self w1001]; generalize hq_ : World.drewN w1001 _ = w1001; have n0_ := Aside0.mk (blk_at hq_ BK250.out); have n1_ := Aside0.mk (below_at hq_ HB.out); clear hq_ BK250 HB; have BK250 := n0_; have HB := n1_; clear n0_ n1_; (try (obtain ⟨⟨hcyBK250_0, hcyBK250_1⟩, hfyBK250_0, hfyBK250_1⟩ := cells2 BK250.out))))) | ((with_reducible refine gate_callee (f := 14) rfl ?_); refine goesL_ (some 20) rfl rfl Tryd.func14 (by kernel_rfl) rfl #[.string t251] rfl wT ?_; (with_reducible refine (impl_ReadAddr.calls k t251 t254 t255 _ ?side1 A3.out).mono ?_); (case side1 => repeat (first | exact (Door.c_below HD.out HB.out) | (with_reducible refine Door.c_alloc ?_ _) | (with_reducible refine Door.c_drewN ?_ _) | (with_reducible refine Door.c_drew ?_))); rintro e w1002 ⟨rfl, hb⟩; refine ⟨_, rfl, ?_⟩; have n0_ := Aside0.mk (blk_below (Bh BK250) hb); have n1_ := Aside0.mk (below_step wB hb); clear BK250; clear HB; have BK250 := n0_; have HB := n1_; clear n0_ n1_; (try clear hb); (try clear hb2); (try clear hk); (try clear hi)) | ((with_reducible refine gate_callee (f := 37) rfl ?_); refine goesL_ (some 25) rfl rfl Tryd.func37 (by kernel_rfl) rfl #[.string t252, .int .i64 2] rfl wT ?_; (with_reducible refine (impl_decimal.calls k t252 2 t256 true _ A4.out).mono ?_); rintro e w1003 ⟨rfl, hb⟩; refine ⟨_, rfl, ?_⟩; have n0_ := Aside0.mk (blk_below (Bh BK250) hb); have n1_ := Aside0.mk (below_step wB hb); clear BK250; clear HB; have BK250 := n0_; have HB := n1_; clear n0_ n1_; (try clear hb); (try clear hb2); (try clear hk); (try clear hi)) | ((with_reducible refine gate_dst (N := 11) rfl ?_); refine box_event ?hg (N := 11) ?hd (cs := #[.int .i64 0, .int .i64 0]) (t := 36) ?hr ?_; (case hd => rfl); (case hg => rfl); (case hr => first | (go_simp; done) | (go_simp; rfl)); intro gb258 hg w1004 hbox hb; have n0_ := Aside0.mk (blk_below (Bh BK250) hb); have n1_ := Aside0.mk (below_step wB hb); have n2_ := Aside0.mk (hbox); have n3_ := Aside0.mk ((by rw [hg]; exact (below_size wB) : w.heap.size ≤ gb258)); have n4_ := Aside0.mk ((by rw [hg]; exact (below_size wB) : w.heap.size ≤ gb258)); have n5_ := Aside0.mk ((by rw [hg]; exact Nat.ne_of_lt (blk_lt (Bh BK250)) : gb250 ≠ gb258)); have n6_ := Aside0.mk ((by rw [hg]; exact Nat.ne_of_gt (blk_lt (Bh BK250)) : gb258 ≠ gb250)); clear BK250; clear HB; have BK250 := n0_; have HB := n1_; have BK258 := n2_; have GW258 := n3_; have GE258 := n4_; have NB250_258 := n5_; have NB258_250 := n6_; clear n0_ n1_ n2_ n3_ n4_ n5_ n6_; clear hb hbox hg; have hnb1005 := NB258_250.out; have hnc1005 := NB250_258.out; obtain ⟨⟨hcz1006_0, hcz1006_1⟩, hfz1006_0, hfz1006_1⟩ := cells2 BK258.out) | ((with_reducible refine gate_store (t := 36) (p := 11) rfl ?_); refine store_event (t := 36) (p := 11) (v := ?_) (w1 := ((w1004.setCell ⟨gb258, 0, none⟩ (.int .i64 t254)).setCell ⟨gb258, 1, none⟩ (.int .i64 t256))) ?hg ?ho ?hn ?hr ?_; (case ho => rfl); (case hg => rfl); (case hn => rfl); (case hr => first | (go_simp; done) | (go_simp; rfl)); intro w1007 hw; have n0_ : Aside0 (w1007.heap[gb250]? = some (.cells #[.int .i64 0, .int .i64 0] 36 (0, 0))) := ⟨(by rw [hw]; exact (by (with_reducible repeat (first | refine blk_drewN ?_ _ | refine blk_drew ?_ | refine blk_alloc ?_ _)); refine blk_far ?_ NB250_258.out _; (with_reducible repeat (first | refine blk_drewN ?_ _ | refine blk_drew ?_ | refine blk_alloc ?_ _)); refine blk_far ?_ NB250_258.out _; (with_reducible repeat (first | refine blk_drewN ?_ _ | refine blk_drew ?_ | refine blk_alloc ?_ _)); exact BK250.out))⟩; have n1_ : Aside0 (w1007.heap[gb258]? = some (.cells #[.int .i64 t254, .int .i64 t256] 36 (0, 0))) := ⟨(by rw [hw]; exact (by (with_reducible repeat (first | refine blk_drewN ?_ _ | refine blk_drew ?_ | refine blk_alloc ?_ _)); refine blk_put (cs := #[.int .i64 t254, .int .i64 0]) ?_ 1 _ rfl; (with_reducible repeat (first | refine blk_drewN ?_ _ | refine blk_drew ?_ | refine blk_alloc ?_ _)); refine blk_put (cs := #[.int .i64 0, .int .i64 0]) ?_ 0 _ rfl; (with_reducible repeat (first | refine blk_drewN ?_ _ | refine blk_drew ?_ | refine blk_alloc ?_ _)); exact BK258.out))⟩; have n2_ : Aside0 (Below w.heap.size w w1007) := ⟨(by rw [hw]; exact wB)⟩; clear hw; clear BK250; clear BK258; clear HB; have BK250 := n0_; have BK258 := n1_; have HB := n2_; clear n0_ n1_ n2_; obtain ⟨⟨hcz1008_0, hcz1008_1⟩, hfz1008_0, hfz1008_1⟩ := cells2 BK258.out) | (go_at_call 47; (with_reducible refine (impl_okPrefix.calls t254 t256 false _ A7.out).mono ?_); rintro e w1009 ⟨rfl, hb⟩; have n0_ := Aside0.mk (blk_below (Bh BK250) hb); have n1_ := Aside0.mk (blk_below (Bh BK258) hb); have n2_ := Aside0.mk (below_step wB hb); clear BK250; clear BK258; clear HB; have BK250 := n0_; have BK258 := n1_; have HB := n2_; clear n0_ n1_ n2_; (try clear hb); (try clear hb2); (try clear hk); (try clear hi); obtain ⟨⟨hcz1010_0, hcz1010_1⟩, hfz1010_0, hfz1010_1⟩ := cells2 BK250.out) | ((with_reducible refine gate_store (t := 36) (p := 2) rfl ?_); refine store_event (t := 36) (p := 2) (v := ?_) (w1 := ((w1009.setCell ⟨gb250, 0, none⟩ (.int .i64 0)).setCell ⟨gb250, 1, none⟩ (.int .i64 0))) ?hg ?ho ?hn ?hr ?_; (case ho => rfl); (case hg => rfl); (case hn => rfl); (case hr => first | (go_simp; done) | (go_simp; rfl)); intro w1011 hw; have n0_ : Aside0 (w1011.heap[gb250]? = some (.cells #[.int .i64 0, .int .i64 0] 36 (0, 0))) := ⟨(by rw [hw]; exact (by (with_reducible repeat (first | refine blk_drewN ?_ _ | refine blk_drew ?_ | refine blk_alloc ?_ _)); refine blk_put (cs := #[.int .i64 0, .int .i64 0]) ?_ 1 _ rfl; (with_reducible repeat (first | refine blk_drewN ?_ _ | refine blk_drew ?_ | refine blk_alloc ?_ _)); refine blk_put (cs := #[.int .i64 0, .int .i64 0]) ?_ 0 _ rfl; (with_reducible repeat (first | refine blk_drewN ?_ _ | refine blk_drew ?_ | refine blk_alloc ?_ _)); exact BK250.out))⟩; have n1_ : Aside0 (w1011.heap[gb258]? = some (.cells #[.int .i64 t254, .int .i64 t256] 36 (0, 0))) := ⟨(by rw [hw]; exact (by (with_reducible repeat (first | refine blk_drewN ?_ _ | refine blk_drew ?_ | refine blk_alloc ?_ _)); refine blk_far ?_ NB258_250.out _; (with_reducible repeat (first | refine blk_drewN ?_ _ | refine blk_drew ?_ | refine blk_alloc ?_ _)); refine blk_far ?_ NB258_250.out _; (with_reducible repeat (first | refine blk_drewN ?_ _ | refine blk_drew ?_ | refine blk_alloc ?_ _)); exact BK258.out))⟩; have n2_ : Aside0 (Below w.heap.size w w1011) := ⟨(by rw [hw]; exact wB)⟩; clear hw; clear BK250; clear BK258; clear HB; have BK250 := n0_; have BK258 := n1_; have HB := n2_; clear n0_ n1_ n2_))
 refine bodyPost_ret (results_ct rfl _ _ gb250 36 #[.int .i64 0, .int .i64 0] (0, 0) _ rfl (Bh BK250) Tryd.underlying36 rfl (by kernel_rfl)) rfl ?_
 exact ⟨by first | rfl | (simp [errW_none, errW_some] <;> rfl) | (simp [*, errW_none, errW_some] <;> rfl), wB⟩
 }
 }
 {
 replace c6 := Bool.eq_false_iff.mpr c6
 subst c6
 have H1 : (some (0, 0, 6)) = some (r1, r2, r3) := by rw [if_neg (show ¬ (false = true) by decide)] at H; exact H
 clear H
 have H := H1
 clear H1
 simp only [Option.some.injEq, Prod.mk.injEq] at H
 obtain ⟨rfl, rfl, rfl⟩ := H
 go_enter Tryd.func19, Tryd.ntmps19
 go_wp2_with (first | ((with_reducible refine gate_dst (N := 2) rfl ?_); refine box_event ?hg (N := 2) ?hd (cs := #[.int .i64 0, .int .i64 0]) (t := 36) ?hr ?_; (case hd => rfl); (case hg => rfl); (case hr => first | (go_simp; done) | (go_simp; rfl)); intro gb250 hg w1001 hbox hb; have n0_ := Aside0.mk (below_step wB hb); have n1_ := Aside0.mk (hbox); have n2_ := Aside0.mk ((by rw [hg]; exact (below_size wB) : w.heap.size ≤ gb250)); have n3_ := Aside0.mk ((by rw [hg]; exact (below_size wB) : w.heap.size ≤ gb250)); clear HB; have HB := n0_; have BK250 := n1_; have GW250 := n2_; have GE250 := n3_; clear n0_ n1_ n2_ n3_; clear hb hbox hg) | ((with_reducible refine gate_callee (f := 46) rfl ?_); refine goesL_ (some 14) rfl rfl Tryd.func46 (by kernel_rfl) rfl #[.string a0, .string (⟨#[47]⟩ : ByteArray)] rfl wT ?_; (with_reducible refine (strings_Cut.calls a0 (⟨#[47]⟩ : ByteArray) t251 t252 t253 _ ?side1 A2.out).mono ?_); (case side1 => repeat (first | exact (Door.c_below HD.out HB.out) | (with_reducible refine Door.c_alloc ?_ _) | (with_reducible refine Door.c_drewN ?_ _) | (with_reducible refine Door.c_drew ?_))); rintro e w' ⟨rfl, ⟨nd, rfl⟩⟩; refine ⟨_, rfl, ?_⟩; (try (rw [drewN_self w1001]; generalize hq_ : World.drewN w1001 _ = w1001; have n0_ := Aside0.mk (blk_at hq_ BK250.out); have n1_ := Aside0.mk (below_at hq_ HB.out); clear hq_ BK250 HB; have BK250 := n0_; have HB := n1_; clear n0_ n1_; (try (obtain ⟨⟨hcyBK250_0, hcyBK250_1⟩, hfyBK250_0, hfyBK250_1⟩ := cells2 BK250.out))))) | ((with_reducible refine gate_callee (f := 14) rfl ?_); refine goesL_ (some 20) rfl rfl Tryd.func14 (by kernel_rfl) rfl #[.string t251] rfl wT ?_; (with_reducible refine (impl_ReadAddr.calls k t251 t254 t255 _ ?side1 A3.out).mono ?_); (case side1 => repeat (first | exact (Door.c_below HD.out HB.out) | (with_reducible refine Door.c_alloc ?_ _) | (with_reducible refine Door.c_drewN ?_ _) | (with_reducible refine Door.c_drew ?_))); rintro e w1002 ⟨rfl, hb⟩; refine ⟨_, rfl, ?_⟩; have n0_ := Aside0.mk (blk_below (Bh BK250) hb); have n1_ := Aside0.mk (below_step wB hb); clear BK250; clear HB; have BK250 := n0_; have HB := n1_; clear n0_ n1_; (try clear hb); (try clear hb2); (try clear hk); (try clear hi)) | ((with_reducible refine gate_callee (f := 37) rfl ?_); refine goesL_ (some 25) rfl rfl Tryd.func37 (by kernel_rfl) rfl #[.string t252, .int .i64 2] rfl wT ?_; (with_reducible refine (impl_decimal.calls k t252 2 t256 false _ A4.out).mono ?_); rintro e w1003 ⟨rfl, hb⟩; refine ⟨_, rfl, ?_⟩; have n0_ := Aside0.mk (blk_below (Bh BK250) hb); have n1_ := Aside0.mk (below_step wB hb); clear BK250; clear HB; have BK250 := n0_; have HB := n1_; clear n0_ n1_; (try clear hb); (try clear hb2); (try clear hk); (try clear hi)) | ((with_reducible refine gate_dst (N := 11) rfl ?_); refine box_event ?hg (N := 11) ?hd (cs := #[.int .i64 0, .int .i64 0]) (t := 36) ?hr ?_; (case hd => rfl); (case hg => rfl); (case hr => first | (go_simp; done) | (go_simp; rfl)); intro gb258 hg w1004 hbox hb; have n0_ := Aside0.mk (blk_below (Bh BK250) hb); have n1_ := Aside0.mk (below_step wB hb); have n2_ := Aside0.mk (hbox); have n3_ := Aside0.mk ((by rw [hg]; exact (below_size wB) : w.heap.size ≤ gb258)); have n4_ := Aside0.mk ((by rw [hg]; exact (below_size wB) : w.heap.size ≤ gb258)); have n5_ := Aside0.mk ((by rw [hg]; exact Nat.ne_of_lt (blk_lt (Bh BK250)) : gb250 ≠ gb258)); have n6_ := Aside0.mk ((by rw [hg]; exact Nat.ne_of_gt (blk_lt (Bh BK250)) : gb258 ≠ gb250)); clear BK250; clear HB; have BK250 := n0_; have HB := n1_; have BK258 := n2_; have GW258 := n3_; have GE258 := n4_; have NB250_258 := n5_; have NB258_250 := n6_; clear n0_ n1_ n2_ n3_ n4_ n5_ n6_; clear hb hbox hg; have hnb1005 := NB258_250.out; have hnc1005 := NB250_258.out; obtain ⟨⟨hcz1006_0, hcz1006_1⟩, hfz1006_0, hfz1006_1⟩ := cells2 BK258.out) | ((with_reducible refine gate_store (t := 36) (p := 11) rfl ?_); refine store_event (t := 36) (p := 11) (v := ?_) (w1 := ((w1004.setCell ⟨gb258, 0, none⟩ (.int .i64 t254)).setCell ⟨gb258, 1, none⟩ (.int .i64 t256))) ?hg ?ho ?hn ?hr ?_; (case ho => rfl); (case hg => rfl); (case hn => rfl); (case hr => first | (go_simp; done) | (go_simp; rfl)); intro w1007 hw; have n0_ : Aside0 (w1007.heap[gb250]? = some (.cells #[.int .i64 0, .int .i64 0] 36 (0, 0))) := ⟨(by rw [hw]; exact (by (with_reducible repeat (first | refine blk_drewN ?_ _ | refine blk_drew ?_ | refine blk_alloc ?_ _)); refine blk_far ?_ NB250_258.out _; (with_reducible repeat (first | refine blk_drewN ?_ _ | refine blk_drew ?_ | refine blk_alloc ?_ _)); refine blk_far ?_ NB250_258.out _; (with_reducible repeat (first | refine blk_drewN ?_ _ | refine blk_drew ?_ | refine blk_alloc ?_ _)); exact BK250.out))⟩; have n1_ : Aside0 (w1007.heap[gb258]? = some (.cells #[.int .i64 t254, .int .i64 t256] 36 (0, 0))) := ⟨(by rw [hw]; exact (by (with_reducible repeat (first | refine blk_drewN ?_ _ | refine blk_drew ?_ | refine blk_alloc ?_ _)); refine blk_put (cs := #[.int .i64 t254, .int .i64 0]) ?_ 1 _ rfl; (with_reducible repeat (first | refine blk_drewN ?_ _ | refine blk_drew ?_ | refine blk_alloc ?_ _)); refine blk_put (cs := #[.int .i64 0, .int .i64 0]) ?_ 0 _ rfl; (with_reducible repeat (first | refine blk_drewN ?_ _ | refine blk_drew ?_ | refine blk_alloc ?_ _)); exact BK258.out))⟩; have n2_ : Aside0 (Below w.heap.size w w1007) := ⟨(by rw [hw]; exact wB)⟩; clear hw; clear BK250; clear BK258; clear HB; have BK250 := n0_; have BK258 := n1_; have HB := n2_; clear n0_ n1_ n2_; obtain ⟨⟨hcz1008_0, hcz1008_1⟩, hfz1008_0, hfz1008_1⟩ := cells2 BK250.out) | ((with_reducible refine gate_store (t := 36) (p := 2) rfl ?_); refine store_event (t := 36) (p := 2) (v := ?_) (w1 := ((w1007.setCell ⟨gb250, 0, none⟩ (.int .i64 0)).setCell ⟨gb250, 1, none⟩ (.int .i64 0))) ?hg ?ho ?hn ?hr ?_; (case ho => rfl); (case hg => rfl); (case hn => rfl); (case hr => first | (go_simp; done) | (go_simp; rfl)); intro w1009 hw; have n0_ : Aside0 (w1009.heap[gb250]? = some (.cells #[.int .i64 0, .int .i64 0] 36 (0, 0))) := ⟨(by rw [hw]; exact (by (with_reducible repeat (first | refine blk_drewN ?_ _ | refine blk_drew ?_ | refine blk_alloc ?_ _)); refine blk_put (cs := #[.int .i64 0, .int .i64 0]) ?_ 1 _ rfl; (with_reducible repeat (first | refine blk_drewN ?_ _ | refine blk_drew ?_ | refine blk_alloc ?_ _)); refine blk_put (cs := #[.int .i64 0, .int .i64 0]) ?_ 0 _ rfl; (with_reducible repeat (first | refine blk_drewN ?_ _ | refine blk_drew ?_ | refine blk_alloc ?_ _)); exact BK250.out))⟩; have n1_ : Aside0 (w1009.heap[gb258]? = some (.cells #[.int .i64 t254, .int .i64 t256] 36 (0, 0))) := ⟨(by rw [hw]; exact (by (with_reducible repeat (first | refine blk_drewN ?_ _ | refine blk_drew ?_ | refine blk_alloc ?_ _)); refine blk_far ?_ NB258_250.out _; (with_reducible repeat (first | refine blk_drewN ?_ _ | refine blk_drew ?_ | refine blk_alloc ?_ _)); refine blk_far ?_ NB258_250.out _; (with_reducible repeat (first | refine blk_drewN ?_ _ | refine blk_drew ?_ | refine blk_alloc ?_ _)); exact BK258.out))⟩; have n2_ : Aside0 (Below w.heap.size w w1009) := ⟨(by rw [hw]; exact wB)⟩; clear hw; clear BK250; clear BK258; clear HB; have BK250 := n0_; have BK258 := n1_; have HB := n2_; clear n0_ n1_ n2_))
 refine bodyPost_ret (results_ct rfl _ _ gb250 36 #[.int .i64 0, .int .i64 0] (0, 0) _ rfl (Bh BK250) Tryd.underlying36 rfl (by kernel_rfl)) rfl ?_
 exact ⟨by first | rfl | (simp [errW_none, errW_some] <;> rfl) | (simp [*, errW_none, errW_some] <;> rfl), wB⟩
 }
 }
 {
 rw [if_neg c5] at H
 have c5b0 : (t255 == 0) = false := beq_eq_false_iff_ne.mpr c5
 have c5b1 : (t255 != 0) = true := bne_iff_ne.mpr c5
 simp only [Option.some.injEq, Prod.mk.injEq] at H
 obtain ⟨rfl, rfl, rfl⟩ := H
 go_enter Tryd.func19, Tryd.ntmps19
 go_wp2_with (first | ((with_reducible refine gate_dst (N := 2) rfl ?_); refine box_event ?hg (N := 2) ?hd (cs := #[.int .i64 0, .int .i64 0]) (t := 36) ?hr ?_; (case hd => rfl); (case hg => rfl); (case hr => first | (go_simp; done) | (go_simp; rfl)); intro gb250 hg w1001 hbox hb; have n0_ := Aside0.mk (below_step wB hb); have n1_ := Aside0.mk (hbox); have n2_ := Aside0.mk ((by rw [hg]; exact (below_size wB) : w.heap.size ≤ gb250)); have n3_ := Aside0.mk ((by rw [hg]; exact (below_size wB) : w.heap.size ≤ gb250)); clear HB; have HB := n0_; have BK250 := n1_; have GW250 := n2_; have GE250 := n3_; clear n0_ n1_ n2_ n3_; clear hb hbox hg) | ((with_reducible refine gate_callee (f := 46) rfl ?_); refine goesL_ (some 14) rfl rfl Tryd.func46 (by kernel_rfl) rfl #[.string a0, .string (⟨#[47]⟩ : ByteArray)] rfl wT ?_; (with_reducible refine (strings_Cut.calls a0 (⟨#[47]⟩ : ByteArray) t251 t252 t253 _ ?side1 A2.out).mono ?_); (case side1 => repeat (first | exact (Door.c_below HD.out HB.out) | (with_reducible refine Door.c_alloc ?_ _) | (with_reducible refine Door.c_drewN ?_ _) | (with_reducible refine Door.c_drew ?_))); rintro e w' ⟨rfl, ⟨nd, rfl⟩⟩; refine ⟨_, rfl, ?_⟩; (try (rw [drewN_self w1001]; generalize hq_ : World.drewN w1001 _ = w1001; have n0_ := Aside0.mk (blk_at hq_ BK250.out); have n1_ := Aside0.mk (below_at hq_ HB.out); clear hq_ BK250 HB; have BK250 := n0_; have HB := n1_; clear n0_ n1_; (try (obtain ⟨⟨hcyBK250_0, hcyBK250_1⟩, hfyBK250_0, hfyBK250_1⟩ := cells2 BK250.out))))) | ((with_reducible refine gate_callee (f := 14) rfl ?_); refine goesL_ (some 20) rfl rfl Tryd.func14 (by kernel_rfl) rfl #[.string t251] rfl wT ?_; (with_reducible refine (impl_ReadAddr.calls k t251 t254 t255 _ ?side1 A3.out).mono ?_); (case side1 => repeat (first | exact (Door.c_below HD.out HB.out) | (with_reducible refine Door.c_alloc ?_ _) | (with_reducible refine Door.c_drewN ?_ _) | (with_reducible refine Door.c_drew ?_))); rintro e w1002 ⟨rfl, hb⟩; refine ⟨_, rfl, ?_⟩; have n0_ := Aside0.mk (blk_below (Bh BK250) hb); have n1_ := Aside0.mk (below_step wB hb); clear BK250; clear HB; have BK250 := n0_; have HB := n1_; clear n0_ n1_; (try clear hb); (try clear hb2); (try clear hk); (try clear hi)) | ((with_reducible refine gate_callee (f := 37) rfl ?_); refine goesL_ (some 25) rfl rfl Tryd.func37 (by kernel_rfl) rfl #[.string t252, .int .i64 2] rfl wT ?_; (with_reducible refine (impl_decimal.calls k t252 2 t256 t257 _ A4.out).mono ?_); rintro e w1003 ⟨rfl, hb⟩; refine ⟨_, rfl, ?_⟩; have n0_ := Aside0.mk (blk_below (Bh BK250) hb); have n1_ := Aside0.mk (below_step wB hb); clear BK250; clear HB; have BK250 := n0_; have HB := n1_; clear n0_ n1_; (try clear hb); (try clear hb2); (try clear hk); (try clear hi)) | ((with_reducible refine gate_dst (N := 11) rfl ?_); refine box_event ?hg (N := 11) ?hd (cs := #[.int .i64 0, .int .i64 0]) (t := 36) ?hr ?_; (case hd => rfl); (case hg => rfl); (case hr => first | (go_simp; done) | (go_simp; rfl)); intro gb258 hg w1004 hbox hb; have n0_ := Aside0.mk (blk_below (Bh BK250) hb); have n1_ := Aside0.mk (below_step wB hb); have n2_ := Aside0.mk (hbox); have n3_ := Aside0.mk ((by rw [hg]; exact (below_size wB) : w.heap.size ≤ gb258)); have n4_ := Aside0.mk ((by rw [hg]; exact (below_size wB) : w.heap.size ≤ gb258)); have n5_ := Aside0.mk ((by rw [hg]; exact Nat.ne_of_lt (blk_lt (Bh BK250)) : gb250 ≠ gb258)); have n6_ := Aside0.mk ((by rw [hg]; exact Nat.ne_of_gt (blk_lt (Bh BK250)) : gb258 ≠ gb250)); clear BK250; clear HB; have BK250 := n0_; have HB := n1_; have BK258 := n2_; have GW258 := n3_; have GE258 := n4_; have NB250_258 := n5_; have NB258_250 := n6_; clear n0_ n1_ n2_ n3_ n4_ n5_ n6_; clear hb hbox hg; have hnb1005 := NB258_250.out; have hnc1005 := NB250_258.out; obtain ⟨⟨hcz1006_0, hcz1006_1⟩, hfz1006_0, hfz1006_1⟩ := cells2 BK258.out) | ((with_reducible refine gate_store (t := 36) (p := 11) rfl ?_); refine store_event (t := 36) (p := 11) (v := ?_) (w1 := ((w1004.setCell ⟨gb258, 0, none⟩ (.int .i64 t254)).setCell ⟨gb258, 1, none⟩ (.int .i64 t256))) ?hg ?ho ?hn ?hr ?_; (case ho => rfl); (case hg => rfl); (case hn => rfl); (case hr => first | (go_simp; done) | (go_simp; rfl)); intro w1007 hw; have n0_ : Aside0 (w1007.heap[gb250]? = some (.cells #[.int .i64 0, .int .i64 0] 36 (0, 0))) := ⟨(by rw [hw]; exact (by (with_reducible repeat (first | refine blk_drewN ?_ _ | refine blk_drew ?_ | refine blk_alloc ?_ _)); refine blk_far ?_ NB250_258.out _; (with_reducible repeat (first | refine blk_drewN ?_ _ | refine blk_drew ?_ | refine blk_alloc ?_ _)); refine blk_far ?_ NB250_258.out _; (with_reducible repeat (first | refine blk_drewN ?_ _ | refine blk_drew ?_ | refine blk_alloc ?_ _)); exact BK250.out))⟩; have n1_ : Aside0 (w1007.heap[gb258]? = some (.cells #[.int .i64 t254, .int .i64 t256] 36 (0, 0))) := ⟨(by rw [hw]; exact (by (with_reducible repeat (first | refine blk_drewN ?_ _ | refine blk_drew ?_ | refine blk_alloc ?_ _)); refine blk_put (cs := #[.int .i64 t254, .int .i64 0]) ?_ 1 _ rfl; (with_reducible repeat (first | refine blk_drewN ?_ _ | refine blk_drew ?_ | refine blk_alloc ?_ _)); refine blk_put (cs := #[.int .i64 0, .int .i64 0]) ?_ 0 _ rfl; (with_reducible repeat (first | refine blk_drewN ?_ _ | refine blk_drew ?_ | refine blk_alloc ?_ _)); exact BK258.out))⟩; have n2_ : Aside0 (Below w.heap.size w w1007) := ⟨(by rw [hw]; exact wB)⟩; clear hw; clear BK250; clear BK258; clear HB; have BK250 := n0_; have BK258 := n1_; have HB := n2_; clear n0_ n1_ n2_; obtain ⟨⟨hcz1008_0, hcz1008_1⟩, hfz1008_0, hfz1008_1⟩ := cells2 BK250.out) | ((with_reducible refine gate_store (t := 36) (p := 2) rfl ?_); refine store_event (t := 36) (p := 2) (v := ?_) (w1 := ((w1007.setCell ⟨gb250, 0, none⟩ (.int .i64 0)).setCell ⟨gb250, 1, none⟩ (.int .i64 0))) ?hg ?ho ?hn ?hr ?_; (case ho => rfl); (case hg => rfl); (case hn => rfl); (case hr => first | (go_simp; done) | (go_simp; rfl)); intro w1009 hw; have n0_ : Aside0 (w1009.heap[gb250]? = some (.cells #[.int .i64 0, .int .i64 0] 36 (0, 0))) := ⟨(by rw [hw]; exact (by (with_reducible repeat (first | refine blk_drewN ?_ _ | refine blk_drew ?_ | refine blk_alloc ?_ _)); refine blk_put (cs := #[.int .i64 0, .int .i64 0]) ?_ 1 _ rfl; (with_reducible repeat (first | refine blk_drewN ?_ _ | refine blk_drew ?_ | refine blk_alloc ?_ _)); refine blk_put (cs := #[.int .i64 0, .int .i64 0]) ?_ 0 _ rfl; (with_reducible repeat (first | refine blk_drewN ?_ _ | refine blk_drew ?_ | refine blk_alloc ?_ _)); exact BK250.out))⟩; have n1_ : Aside0 (w1009.heap[gb258]? = some (.cells #[.int .i64 t254, .int .i64 t256] 36 (0, 0))) := ⟨(by rw [hw]; exact (by (with_reducible repeat (first | refine blk_drewN ?_ _ | refine blk_drew ?_ | refine blk_alloc ?_ _)); refine blk_far ?_ NB258_250.out _; (with_reducible repeat (first | refine blk_drewN ?_ _ | refine blk_drew ?_ | refine blk_alloc ?_ _)); refine blk_far ?_ NB258_250.out _; (with_reducible repeat (first | refine blk_drewN ?_ _ | refine blk_drew ?_ | refine blk_alloc ?_ _)); exact BK258.out))⟩; have n2_ : Aside0 (Below w.heap.size w w1009) := ⟨(by rw [hw]; exact wB)⟩; clear hw; clear BK250; clear BK258; clear HB; have BK250 := n0_; have BK258 := n1_; have HB := n2_; clear n0_ n1_ n2_))
 refine bodyPost_ret (results_ct rfl _ _ gb250 36 #[.int .i64 0, .int .i64 0] (0, 0) _ rfl (Bh BK250) Tryd.underlying36 rfl (by kernel_rfl)) rfl ?_
 exact ⟨by first | rfl | (simp [errW_none, errW_some] <;> rfl) | (simp [*, errW_none, errW_some] <;> rfl), wB⟩
 }

/-! ### impl_ShowPrefix: function 20 -/
def impl_ShowPrefix.f (k : Nat) (a0_0 : Int) (a0_1 : Int) : Option (ByteArray × Int) := (impl_okPrefix.f a0_0 a0_1).bind fun t261 => (if t261 = true then ((impl_ShowAddr.f k a0_0).bind fun bt262 => (if bt262.1.size + 1 ≤ 9223372036854775807 then ((strconv_FormatInt.f a0_1 10).bind fun t264 => (if (bt262.1 ++ (⟨#[47]⟩ : ByteArray)).size + t264.size ≤ 9223372036854775807 then (some ((bt262.1 ++ (⟨#[47]⟩ : ByteArray)) ++ t264, 0)) else (none))) else (none))) else (some ((⟨#[]⟩ : ByteArray), 1)))
theorem impl_ShowPrefix.mono : ∀ a0 a1 k, LeO (impl_ShowPrefix.f k a0 a1) (impl_ShowPrefix.f (k + 1) a0 a1) := by
  intro a0 a1 k
  unfold impl_ShowPrefix.f
  repeat' first
      | (with_reducible exact impl_ShowAddr.mono _ _)
      | (with_reducible exact LeO.refl _)
      | (with_reducible exact LeO.none _)
      | (with_reducible refine LeO.ite ?_ ?_)
      | (with_reducible refine LeO.bind ?_ (fun _ => ?_))
      | exact impl_ShowAddr.mono _ _
      | exact LeO.none _
      | refine LeO.ite ?_ ?_
      | refine LeO.bind ?_ (fun _ => ?_)
set_option maxHeartbeats 60000000 in
set_option maxRecDepth 100000 in
theorem impl_ShowPrefix.calls (k : Nat) (a0_0 : Int) (a0_1 : Int) (r1 : ByteArray) (r2 : Int) (w : World) (hd : Door w) (h : impl_ShowPrefix.f k a0_0 a0_1 = some (r1, r2)) :
    Calls Tryd.prog 20 #[.agg #[.int .i64 a0_0, .int .i64 a0_1]] w fun e w' => e = .returned (.tuple #[.string r1, .int .i64 r2]) ∧ Below w.heap.size w w' := by
  have hu36 := Tryd.underlying36
  have HD := Aside0.mk hd
  clear hd
  have HB := Aside0.mk (Below.refl w.heap.size w)
  have H : ((impl_okPrefix.f a0_0 a0_1).bind fun t261 => (if t261 = true then ((impl_ShowAddr.f k a0_0).bind fun bt262 => (if bt262.1.size + 1 ≤ 9223372036854775807 then ((strconv_FormatInt.f a0_1 10).bind fun t264 => (if (bt262.1 ++ (⟨#[47]⟩ : ByteArray)).size + t264.size ≤ 9223372036854775807 then (some ((bt262.1 ++ (⟨#[47]⟩ : ByteArray)) ++ t264, 0)) else (none))) else (none))) else (some ((⟨#[]⟩ : ByteArray), 1)))) = some (r1, r2) := h
  clear h
  replace H := Option.bind_eq_some_iff.mp H
  obtain ⟨t261, A20, H⟩ := H
  replace H : (if t261 = true then ((impl_ShowAddr.f k a0_0).bind fun bt262 => (if bt262.1.size + 1 ≤ 9223372036854775807 then ((strconv_FormatInt.f a0_1 10).bind fun t264 => (if (bt262.1 ++ (⟨#[47]⟩ : ByteArray)).size + t264.size ≤ 9223372036854775807 then (some ((bt262.1 ++ (⟨#[47]⟩ : ByteArray)) ++ t264, 0)) else (none))) else (none))) else (some ((⟨#[]⟩ : ByteArray), 1))) = some (r1, r2) := H
  have A2 := Aside0.mk A20
  clear A20
  by_cases c3 : t261 = true
  · subst c3
    have H1 : ((impl_ShowAddr.f k a0_0).bind fun bt262 => (if bt262.1.size + 1 ≤ 9223372036854775807 then ((strconv_FormatInt.f a0_1 10).bind fun t264 => (if (bt262.1 ++ (⟨#[47]⟩ : ByteArray)).size + t264.size ≤ 9223372036854775807 then (some ((bt262.1 ++ (⟨#[47]⟩ : ByteArray)) ++ t264, 0)) else (none))) else (none))) = some (r1, r2) := by rw [if_pos rfl] at H; exact H
    clear H
    have H := H1
    clear H1
    replace H := Option.bind_eq_some_iff.mp H
    obtain ⟨⟨t262, t263⟩, A40, H⟩ := H
    replace H : (if t262.size + 1 ≤ 9223372036854775807 then ((strconv_FormatInt.f a0_1 10).bind fun t264 => (if (t262 ++ (⟨#[47]⟩ : ByteArray)).size + t264.size ≤ 9223372036854775807 then (some ((t262 ++ (⟨#[47]⟩ : ByteArray)) ++ t264, 0)) else (none))) else (none)) = some (r1, r2) := H
    have A4 := Aside0.mk A40
    clear A40
    by_cases c5 : t262.size + 1 ≤ 9223372036854775807
    · rw [if_pos c5] at H
      have c5b0 := eq_true c5
      have c5b1 : decide (t262.size + 1 ≤ 9223372036854775807) = true := decide_eq_true c5
      try have c5b2 : (9223372036854775807 < t262.size + 1) = False := eq_false (Nat.not_lt.2 c5)
      replace H := Option.bind_eq_some_iff.mp H
      obtain ⟨t264, A60, H⟩ := H
      replace H : (if (t262 ++ (⟨#[47]⟩ : ByteArray)).size + t264.size ≤ 9223372036854775807 then (some ((t262 ++ (⟨#[47]⟩ : ByteArray)) ++ t264, 0)) else (none)) = some (r1, r2) := H
      have A6 := Aside0.mk A60
      clear A60
      by_cases c7 : (t262 ++ (⟨#[47]⟩ : ByteArray)).size + t264.size ≤ 9223372036854775807
      · rw [if_pos c7] at H
        have c7b0 := eq_true c7
        have c7b1 : decide ((t262 ++ (⟨#[47]⟩ : ByteArray)).size + t264.size ≤ 9223372036854775807) = true := decide_eq_true c7
        try have c7b2 : (9223372036854775807 < (t262 ++ (⟨#[47]⟩ : ByteArray)).size + t264.size) = False := eq_false (Nat.not_lt.2 c7)
        (try (have c7b5 := c7b2; simp only [ByteArray.size_append, show (⟨#[47]⟩ : ByteArray).size = 1 from rfl] at c7b5))
        simp only [Option.some.injEq, Prod.mk.injEq] at H
        obtain ⟨rfl, rfl⟩ := H
        go_enter Tryd.func20, Tryd.ntmps20
        go_wp2_with (first | ((with_reducible refine gate_dst (N := 1) rfl ?_); refine box_event ?hg (N := 1) ?hd (cs := #[.int .i64 a0_0, .int .i64 a0_1]) (t := 36) ?hr ?_; (case hd => rfl); (case hg => rfl); (case hr => first | (go_simp; done) | (go_simp; rfl)); intro gb260 hg w1001 hbox hb; have n0_ := Aside0.mk (below_step wB hb); have n1_ := Aside0.mk (hbox); have n2_ := Aside0.mk ((by rw [hg]; exact (below_size wB) : w.heap.size ≤ gb260)); have n3_ := Aside0.mk ((by rw [hg]; exact (below_size wB) : w.heap.size ≤ gb260)); clear HB; have HB := n0_; have BK260 := n1_; have GW260 := n2_; have GE260 := n3_; clear n0_ n1_ n2_ n3_; clear hb hbox hg; obtain ⟨⟨hcz1002_0, hcz1002_1⟩, hfz1002_0, hfz1002_1⟩ := cells2 BK260.out) | ((with_reducible refine gate_callee (f := 47) rfl ?_); refine goesL_ (some 7) rfl rfl Tryd.func47 (by kernel_rfl) rfl #[.agg #[.int .i64 a0_0, .int .i64 a0_1]] rfl wT ?_; (with_reducible refine (impl_okPrefix.calls a0_0 a0_1 true _ A2.out).mono ?_); rintro e w1003 ⟨rfl, hb⟩; refine ⟨_, rfl, ?_⟩; have n0_ := Aside0.mk (blk_below (Bh BK260) hb); have n1_ := Aside0.mk (below_step wB hb); clear BK260; clear HB; have BK260 := n0_; have HB := n1_; clear n0_ n1_; (try clear hb); (try clear hb2); (try clear hk); (try clear hi); obtain ⟨⟨hcz1004_0, hcz1004_1⟩, hfz1004_0, hfz1004_1⟩ := cells2 BK260.out) | ((with_reducible refine gate_callee (f := 13) rfl ?_); refine goesL_ (some 12) rfl rfl Tryd.func13 (by kernel_rfl) rfl #[.int .i64 a0_0] rfl wT ?_; (with_reducible refine (impl_ShowAddr.calls k a0_0 t262 t263 _ ?side1 A4.out).mono ?_); (case side1 => repeat (first | exact (Door.c_below HD.out HB.out) | (with_reducible refine Door.c_alloc ?_ _) | (with_reducible refine Door.c_drewN ?_ _) | (with_reducible refine Door.c_drew ?_))); rintro e w1005 ⟨rfl, hb⟩; refine ⟨_, rfl, ?_⟩; have n0_ := Aside0.mk (blk_below (Bh BK260) hb); have n1_ := Aside0.mk (below_step wB hb); clear BK260; clear HB; have BK260 := n0_; have HB := n1_; clear n0_ n1_; (try clear hb); (try clear hb2); (try clear hk); (try clear hi); obtain ⟨⟨hcz1006_0, hcz1006_1⟩, hfz1006_0, hfz1006_1⟩ := cells2 BK260.out) | ((with_reducible refine gate_callee (f := 34) rfl ?_); refine goesL_ (some 19) rfl rfl Tryd.func34 (by kernel_rfl) rfl #[.int .i64 a0_1, .int .i64 10] rfl wT ?_; (with_reducible refine (strconv_FormatInt.calls a0_1 10 t264 _ ?side1 A6.out).mono ?_); (case side1 => repeat (first | exact (Door.c_below HD.out HB.out) | (with_reducible refine Door.c_alloc ?_ _) | (with_reducible refine Door.c_drewN ?_ _) | (with_reducible refine Door.c_drew ?_))); rintro e w1007 ⟨rfl, hb⟩; refine ⟨_, rfl, ?_⟩; have n0_ := Aside0.mk (blk_below (Bh BK260) hb); have n1_ := Aside0.mk (below_step wB hb); clear BK260; clear HB; have BK260 := n0_; have HB := n1_; clear n0_ n1_; (try clear hb); (try clear hb2); (try clear hk); (try clear hi)))
        go_ret2
        exact ⟨by first | rfl | (simp [errW_none, errW_some] <;> rfl) | (simp [*, errW_none, errW_some] <;> rfl), wB⟩
      · rw [if_neg c7] at H
        exact absurd H (by simp)
    · rw [if_neg c5] at H
      exact absurd H (by simp)
  · replace c3 := Bool.eq_false_iff.mpr c3
    subst c3
    have H1 : (some ((⟨#[]⟩ : ByteArray), 1)) = some (r1, r2) := by rw [if_neg (show ¬ (false = true) by decide)] at H; exact H
    clear H
    have H := H1
    clear H1
    simp only [Option.some.injEq, Prod.mk.injEq] at H
    obtain ⟨rfl, rfl⟩ := H
    go_enter Tryd.func20, Tryd.ntmps20
    go_wp2_with (first | ((with_reducible refine gate_dst (N := 1) rfl ?_); refine box_event ?hg (N := 1) ?hd (cs := #[.int .i64 a0_0, .int .i64 a0_1]) (t := 36) ?hr ?_; (case hd => rfl); (case hg => rfl); (case hr => first | (go_simp; done) | (go_simp; rfl)); intro gb260 hg w1001 hbox hb; have n0_ := Aside0.mk (below_step wB hb); have n1_ := Aside0.mk (hbox); have n2_ := Aside0.mk ((by rw [hg]; exact (below_size wB) : w.heap.size ≤ gb260)); have n3_ := Aside0.mk ((by rw [hg]; exact (below_size wB) : w.heap.size ≤ gb260)); clear HB; have HB := n0_; have BK260 := n1_; have GW260 := n2_; have GE260 := n3_; clear n0_ n1_ n2_ n3_; clear hb hbox hg; obtain ⟨⟨hcz1002_0, hcz1002_1⟩, hfz1002_0, hfz1002_1⟩ := cells2 BK260.out) | ((with_reducible refine gate_callee (f := 47) rfl ?_); refine goesL_ (some 7) rfl rfl Tryd.func47 (by kernel_rfl) rfl #[.agg #[.int .i64 a0_0, .int .i64 a0_1]] rfl wT ?_; (with_reducible refine (impl_okPrefix.calls a0_0 a0_1 false _ A2.out).mono ?_); rintro e w1003 ⟨rfl, hb⟩; refine ⟨_, rfl, ?_⟩; have n0_ := Aside0.mk (blk_below (Bh BK260) hb); have n1_ := Aside0.mk (below_step wB hb); clear BK260; clear HB; have BK260 := n0_; have HB := n1_; clear n0_ n1_; (try clear hb); (try clear hb2); (try clear hk); (try clear hi)))
    go_ret2
    exact ⟨by first | rfl | (simp [errW_none, errW_some] <;> rfl) | (simp [*, errW_none, errW_some] <;> rfl), wB⟩

/-! ### laws_FnAddrText: function 3 -/
/-- a row of bytes that a conversion made: its cells, which may be written -/
def Up (w : World) (g : Nat) (xs : List Int) : Prop := ∀ j, j < xs.length → w.cell? ⟨g, j, none⟩ = some (.int .u8 (xs.getD j 0)) ∧ w.frozen? ⟨g, j, none⟩ = false
theorem Up.new (W : World) (e : TypeId) (s : ByteArray) : Up (Lib.bytesWorld W e s) W.heap.size (bytesOf s) := by
  intro j hj
  rw [bytesOf_length] at hj
  refine ⟨?_, ?_⟩
  · rw [Lib.bytesWorld_cell W e s j hj]
    have h' : j < s.data.toList.length := by rw [data_length]; exact hj
    simp [bytesOf, List.getD_eq_getElem?_getD, List.getElem?_eq_getElem h']
  · have hs : j < (Lib.bytesCells W e s).size := by
      unfold Lib.bytesCells
      simp
      have : s.data.size = s.size := rfl
      omega
    simp [World.frozen?, Lib.bytesWorld_at_new]
    omega
theorem Up.set {w : World} {g : Nat} {xs : List Int} (h : Up w g xs) (i : Int) (h0 : 0 ≤ i) (h1 : i < xs.length) (x : Int) : Up (w.setCell ⟨g, i.toNat, none⟩ (.int .u8 x)) g (xs.set i.toNat x) := by
  intro j hj
  rw [List.length_set] at hj
  refine ⟨?_, (World.frozen?_setCell _ _ _ _).trans (h j hj).2⟩
  by_cases e : i.toNat = j
  · subst e
    rw [World.cell?_setCell_same _ _ _ (h _ hj).1, List.getD_eq_getElem?_getD, List.getElem?_set_self hj]
    rfl
  · rw [World.cell?_setCell_other _ _ _ _ (by intro h2; injection h2 with _ h2; exact e h2), (h j hj).1]
    simp only [List.getD_eq_getElem?_getD, List.getElem?_set_ne e]
theorem Up.reads {w : World} {g : Nat} {xs : List Int} (h : Up w g xs) (hm : xs.length ≤ 9223372036854775807) : Kd.C (Kd.int .u8) w (some ⟨g, 0, none⟩) xs.length xs :=
  Kd.C_of_reads (d := (0 : Int)) (h1 := fun _ => rfl) ⟨rfl, hm, fun _ => ⟨_, rfl, fun j hj => by rw [add_plain]; exact (h j hj).1⟩⟩
theorem U_conv {P : Program} {ops : Array Oper} {rest : List Oper} {o : Oper} {a : Act} {Q : Exit → Act → World → Prop} {W : World} (e : Nat) (hgd : o.guard = none) (src dst : TypeId) (x : Operand) (ho : o.op = .convert src dst x) (s : ByteArray) (hx : a.eval x = .string s) (hs : P.underlying src = some .string) (hd : P.underlying dst = some (.slice e)) (he : P.underlying e = some (.int .u8))
    (h : ∀ g c w1, g = W.heap.size → Up w1 g (bytesOf s) → s.size ≤ c → Below W.heap.size W w1 → wpList P ops Q rest (a.put o.dst (.slice (some ⟨g, 0, none⟩) s.size c)) w1) : wpList P ops Q (o :: rest) a W := by
  have hr := print_bytes (P := P) src dst e hs hd he s W
  refine Kd.event_run (w1 := Lib.bytesWorld W e s) (v := .slice (some ⟨W.heap.size, 0, none⟩) s.size (grownCap W s.size 0 e)) hgd (by simp [execOp, ho, hx, hr]) ?_
  exact h _ _ _ rfl (Up.new W e s) (grownCap_ge W s.size 0 e) (bytes_below (Below.refl _ _) (Nat.le_refl _) e s)
def laws_FnAddrText.l0 : Nat → List Int → Int → Option (List Int)
  | 0, _, _ => none
  | k + 1, xs, i => if i < (xs.length : Int) then (if 0 ≤ i then (if rd xs i ≥ 97 then (if rd xs i ≤ 102 then laws_FnAddrText.l0 k (xs.set i.toNat ((rd xs i - 32) % 256)) (wrap64 (i + 1)) else laws_FnAddrText.l0 k xs (wrap64 (i + 1))) else laws_FnAddrText.l0 k xs (wrap64 (i + 1))) else none) else some xs
set_option maxHeartbeats 60000000 in
set_option maxRecDepth 100000 in
theorem laws_FnAddrText.great (A0 : Option Addr) (c0 : Nat) (l0 : List Int) (w : World) (c1 : (l0.length : Int) > 1048576) :
    Calls Tryd.prog 3 #[.slice A0 l0.length c0] w fun e w' => e = .returned (.bool true) ∧ Below w.heap.size w w' := by
  have c0b : decide (1048576 < (l0.length : Int)) = true := decide_eq_true c1
  clear c1
  go_enter Tryd.func3, Tryd.ntmps3
  go_wp2
  go_ret
  exact ⟨by first | rfl | (simp; done) | (simp [*]; done), by repeat (first | exact Below.refl _ _ | apply below_alloc | apply pw_below_drewN | apply below_drew1)⟩
set_option maxHeartbeats 60000000 in
set_option maxRecDepth 100000 in
theorem laws_FnAddrText.whole (k : Nat) (A0 : Option Addr) (c0 : Nat) (l0 : List Int) (p0 s0 x p1 s1 y p2 s2 z p3 s3 ad mac : Int) (t m : ByteArray) (ys : List Int) (txt : ByteArray) (pa pb pc : Int) (again : ByteArray) (ac : Int) (w : World) (hr0 : Kd.C (Kd.int .u8) w A0 l0.length l0) (hc0 : l0.length ≤ c0) (hd : Door w)
    (hl : (l0.length : Int) ≤ 1048576) (e1 : laws_lwBegin.f k l0 4 = some (p0, s0)) (e2 : laws_lwNext.f l0 p0 s0 2147483648 = some (x, p1, s1)) (e3 : laws_lwNext.f l0 p1 s1 16777216 = some (y, p2, s2)) (e4 : laws_lwNext.f l0 p2 s2 16777216 = some (z, p3, s3))
    (had : ad = wrap64 (x * 2)) (hmac : mac = wrap64 (wrap64 (y * 16777216) + z)) (e5 : impl_ShowAddr.f k ad = some (t, 0)) (e6 : impl_ReadAddr.f k t = some (ad, 0)) (e7 : impl_ShowMac.f k mac = some (m, 0)) (hm : m.size ≤ 9223372036854775807) (eu : laws_FnAddrText.l0 k (bytesOf m) 0 = some ys) (e8 : impl_ReadMac.f k (strOfNums ys) = some (mac, 0))
    (e9 : spec_DrawReadPrefix.f k l0 = some txt) (e10 : spec_ReadPrefix.f k txt = some (pa, pb, pc)) (e11 : impl_ReadPrefix.f k txt = some (pa, pb, pc)) (e12 : impl_ShowPrefix.f k pa pb = some (again, ac)) (hz : pc ≠ 0 ∨ ac = 0 ∧ again = txt) :
    Calls Tryd.prog 3 #[.slice A0 l0.length c0] w fun e w' => e = .returned (.bool true) ∧ Below w.heap.size w w' := by
  subst had
  subst hmac
  have c0b : decide (1048576 < (l0.length : Int)) = false := decide_eq_false (by omega)
  clear hl
  have E1 := Aside0.mk e1
  have E2 := Aside0.mk e2
  have E3 := Aside0.mk e3
  have E4 := Aside0.mk e4
  have E5 := Aside0.mk e5
  have E6 := Aside0.mk e6
  have E7 := Aside0.mk e7
  have E8 := Aside0.mk e8
  have E9 := Aside0.mk e9
  have E10 := Aside0.mk e10
  have E11 := Aside0.mk e11
  have E12 := Aside0.mk e12
  have EU := Aside0.mk eu
  have HZ := Aside0.mk hz
  have HMS := Aside0.mk hm
  have HR := Aside0.mk hr0
  have HC := Aside0.mk hc0
  have HD := Aside0.mk hd
  have HB0 := Aside0.mk (Below.refl w.heap.size w)
  have hu25 := Tryd.underlying25
  have hu36 := Tryd.underlying36
  clear e1 e2 e3 e4 e5 e6 e7 e8 e9 e10 e11 e12 eu hz hm hr0 hc0 hd
  go_enter Tryd.func3, Tryd.ntmps3
  go_wp2_with (first
    | ((with_reducible refine gate_callee (f := 11) rfl ?_); refine goesL_ (some 27) rfl rfl Tryd.func11 (by kernel_rfl) rfl #[.slice A0 l0.length c0, .int .u64 4] rfl wT ?_; (with_reducible refine (laws_lwBegin.calls k _ _ l0 4 p0 s0 _ ?side1 ?side2 E1.out).mono ?_); (case side1 => exact HR.out); (case side2 => exact HC.out); rintro e v1 ⟨rfl, b1⟩; refine ⟨_, rfl, ?_⟩; have B1 := Aside0.mk b1; clear b1)
    | ((with_reducible refine gate_dst (N := 3) rfl ?_); (try (refine gate_guard (by rfl) ?_; dsimp only)); refine box_event ?hg (N := 3) ?hd (cs := #[.slice none 0 0, .int .i64 0, .int .u64 0]) (t := 25) ?hr ?_; (case hd => rfl); (case hg => rfl); (case hr => first | (go_simp; done) | (go_simp; rfl)); intro gb hg w2 hbox hb; have B2 := Aside0.mk (below_step B1.out hb); have BK := Aside0.mk hbox; have GW := Aside0.mk ((by rw [hg]; exact B1.out.size : w.heap.size ≤ gb)); clear hb hbox hg; obtain ⟨⟨hcz_0, hcz_1, hcz_2⟩, hfz_0, hfz_1, hfz_2⟩ := cells3 BK.out)
    | ((with_reducible refine gate_store (t := 25) (p := 3) rfl ?_); refine store_event (t := 25) (p := 3) (v := ?_) (w1 := (((w2.setCell ⟨gb, 0, none⟩ (.slice A0 l0.length c0)).setCell ⟨gb, 1, none⟩ (.int .i64 p0)).setCell ⟨gb, 2, none⟩ (.int .u64 s0))) ?hg ?ho ?hn ?hr ?_; (case ho => rfl); (case hg => rfl); (case hn => rfl); (case hr => first | (go_simp; done) | (go_simp; rfl)); intro w3 hw; have BK3 : Aside0 (w3.heap[gb]? = some (.cells #[.slice A0 l0.length c0, .int .i64 p0, .int .u64 s0] 25 (0, 0))) := ⟨(by rw [hw]; refine blk_put (cs := #[.slice A0 l0.length c0, .int .i64 p0, .int .u64 0]) ?_ 2 _ rfl; refine blk_put (cs := #[.slice A0 l0.length c0, .int .i64 0, .int .u64 0]) ?_ 1 _ rfl; refine blk_put (cs := #[.slice none 0 0, .int .i64 0, .int .u64 0]) ?_ 0 _ rfl; exact BK.out)⟩; have B3 : Aside0 (Below w.heap.size w w3) := ⟨(by rw [hw]; exact below_set (below_set (below_set B2.out GW.out) GW.out) GW.out)⟩; have HI := Aside0.mk (show IsS25 w w3 gb l0 p0 s0 from ⟨_, _, BK3.out, GW.out, HR.out⟩); clear hw)
    | ((with_reducible refine gate_callee (f := 12) rfl ?_); refine goesL_ (some 28) rfl rfl Tryd.func12 (by kernel_rfl) rfl #[.pointer (some ⟨gb, 0, none⟩), .int .i64 2147483648] rfl wT ?_; (with_reducible refine (laws_lwNext.calls gb l0 p0 s0 2147483648 x p1 s1 w _ ?side1 ?side2 E2.out).mono ?_); (case side1 => exact HI.out); (case side2 => exact B3.out); rintro e v4 ⟨rfl, hi, hb, hk⟩; refine ⟨_, rfl, ?_⟩; have HI4 := Aside0.mk hi; have B4 := Aside0.mk hb; clear hi hb hk)
    | ((with_reducible refine gate_callee (f := 12) rfl ?_); refine goesL_ (some 30) rfl rfl Tryd.func12 (by kernel_rfl) rfl #[.pointer (some ⟨gb, 0, none⟩), .int .i64 16777216] rfl wT ?_; (with_reducible refine (laws_lwNext.calls gb l0 p1 s1 16777216 y p2 s2 w _ ?side1 ?side2 E3.out).mono ?_); (case side1 => exact HI4.out); (case side2 => exact B4.out); rintro e v5 ⟨rfl, hi, hb, hk⟩; refine ⟨_, rfl, ?_⟩; have HI5 := Aside0.mk hi; have B5 := Aside0.mk hb; clear hi hb hk)
    | ((with_reducible refine gate_callee (f := 12) rfl ?_); refine goesL_ (some 32) rfl rfl Tryd.func12 (by kernel_rfl) rfl #[.pointer (some ⟨gb, 0, none⟩), .int .i64 16777216] rfl wT ?_; (with_reducible refine (laws_lwNext.calls gb l0 p2 s2 16777216 z p3 s3 w _ ?side1 ?side2 E4.out).mono ?_); (case side1 => exact HI5.out); (case side2 => exact B5.out); rintro e v6 ⟨rfl, hi, hb, hk⟩; refine ⟨_, rfl, ?_⟩; have B6 := Aside0.mk hb; clear hi hb hk)
    | ((with_reducible refine gate_callee (f := 13) rfl ?_); refine goesL_ (some 36) rfl rfl Tryd.func13 (by kernel_rfl) rfl #[.int .i64 (wrap64 (x * 2))] rfl wT ?_; (with_reducible refine (impl_ShowAddr.calls k (wrap64 (x * 2)) t 0 _ ?side1 E5.out).mono ?_); (case side1 => exact Door.c_below HD.out B6.out); rintro e v7 ⟨rfl, hb⟩; refine ⟨_, rfl, ?_⟩; have B7 := Aside0.mk (below_step B6.out hb); clear hb)
    | ((with_reducible refine gate_callee (f := 14) rfl ?_); refine goesL_ (some 41) rfl rfl Tryd.func14 (by kernel_rfl) rfl #[.string t] rfl wT ?_; (with_reducible refine (impl_ReadAddr.calls k t (wrap64 (x * 2)) 0 _ ?side1 E6.out).mono ?_); (case side1 => exact Door.c_below HD.out B7.out); rintro e v8 ⟨rfl, hb⟩; refine ⟨_, rfl, ?_⟩; have B8 := Aside0.mk (below_step B7.out hb); clear hb)
    | ((with_reducible refine gate_callee (f := 15) rfl ?_); refine goesL_ (some 46) rfl rfl Tryd.func15 (by kernel_rfl) rfl #[.int .i64 (wrap64 (wrap64 (y * 16777216) + z))] rfl wT ?_; (with_reducible refine (impl_ShowMac.calls k (wrap64 (wrap64 (y * 16777216) + z)) m 0 _ ?side1 E7.out).mono ?_); (case side1 => exact Door.c_below HD.out B8.out); rintro e v9 ⟨rfl, hb⟩; refine ⟨_, rfl, ?_⟩; have B9 := Aside0.mk (below_step B8.out hb); clear hb)
    | ((with_reducible refine gate_dst (N := 50) rfl ?_); (try (refine gate_guard (by rfl) ?_; dsimp only)); refine U_conv 5 rfl 9 22 _ rfl m rfl Tryd.underlying9 Tryd.underlying22 Tryd.underlying5 ?_; intro gu cu w10 hgu hU hcu hb; have U10 := Aside0.mk hU; have GU := Aside0.mk ((by rw [hgu]; exact B9.out.size : w.heap.size ≤ gu)); have B10 := Aside0.mk (below_step B9.out hb); clear hU hcu hb hgu))
  go_loopg [13] k (fun kq v13 w' => ∃ (xs_1 : List Int) (i_1 : Int), v13 = .int .i64 i_1 ∧ Aside0 (laws_FnAddrText.l0 kq xs_1 i_1 = some ys) ∧ Aside0 (kq ≤ k) ∧ Aside0 (Up w' gu xs_1) ∧ Aside0 (xs_1.length = m.size) ∧ Aside0 (Below w.heap.size w w'))
  case atStart => exact ⟨bytesOf m, 0, (by first | rfl | (simp; done) | (simp [*]; done)), EU, ⟨Nat.le_refl _⟩, U10, ⟨bytesOf_length m⟩, B10⟩
  case round =>
    obtain ⟨xs_1, i_1, rfl, HA1, HK1, HU, HL, HB⟩ := hrel
    cases gk with
    | zero => exact absurd HA1.out (by simp [laws_FnAddrText.l0])
    | succ k1 =>
      have H := HA1.out
      clear HA1
      simp only [laws_FnAddrText.l0] at H
      have hl1 := HL.out
      by_cases c1001 : i_1 < (xs_1.length : Int)
      · rw [if_pos c1001] at H
        have c1001b0 : decide (i_1 < (m.size : Int)) = true := decide_eq_true (by omega)
        by_cases c1002 : 0 ≤ i_1
        · rw [if_pos c1002] at H
          have hx0 : wr.cell? ⟨gu, i_1.toNat, none⟩ = some (.int .u8 (rd xs_1 i_1)) := (HU.out i_1.toNat (by omega)).1
          have hf0 : wr.frozen? ⟨gu, i_1.toNat, none⟩ = false := (HU.out i_1.toNat (by omega)).2
          have p1 : (0 ≤ i_1) = True := eq_true c1002
          have q1 : (i_1 < (m.size : Int)) = True := eq_true (by omega)
          have US := Aside0.mk (HU.out.set i_1 c1002 c1001 ((rd xs_1 i_1 - 32) % 256))
          by_cases c97 : rd xs_1 i_1 ≥ 97
          · rw [if_pos c97] at H
            have c97b : decide (97 ≤ rd xs_1 i_1) = true := decide_eq_true c97
            by_cases c102 : rd xs_1 i_1 ≤ 102
            · rw [if_pos c102] at H
              have c102b : decide (rd xs_1 i_1 ≤ 102) = true := decide_eq_true c102
              have H' := Aside0.mk H
              clear H c1001 c1002 c97 c102
              go_wp2_with (first | ((with_reducible refine gate_store (t := 5) (p := 76) rfl ?_); refine store_event (t := 5) (p := 76) (v := ?vo_2) (w1 := (wr.setCell ⟨gu, i_1.toNat, none⟩ (.int .u8 ((rd xs_1 i_1 - 32) % 256)))) ?hg ?ho ?hn ?hr ?_; (case ho => rfl); (case hg => rfl); (case hn => rfl); (case hr => first | (go_simp; done) | (go_simp; rfl)); intro w2 hw; have U2 : Aside0 (Up w2 gu (xs_1.set i_1.toNat ((rd xs_1 i_1 - 32) % 256))) := ⟨by rw [hw]; exact US.out⟩; have B2_ : Aside0 (Below w.heap.size w w2) := ⟨by rw [hw]; exact below_set HB.out GU.out⟩; clear hw))
              go_roundg k1
              case measure => have := HK1.out; omega
              case rel => exact ⟨_, (wrap64 (i_1 + 1)), (by first | rfl | (simp; done) | (simp [*]; done)), H', ⟨by have := HK1.out; omega⟩, U2, ⟨by rw [List.length_set]; exact hl1⟩, B2_⟩
            · rw [if_neg c102] at H
              have c102b : decide (rd xs_1 i_1 ≤ 102) = false := decide_eq_false c102
              have H' := Aside0.mk H
              clear H c1001 c1002 c97 c102
              go_wp2
              go_roundg k1
              case measure => have := HK1.out; omega
              case rel => exact ⟨_, (wrap64 (i_1 + 1)), (by first | rfl | (simp; done) | (simp [*]; done)), H', ⟨by have := HK1.out; omega⟩, HU, HL, HB⟩
          · rw [if_neg c97] at H
            have c97b : decide (97 ≤ rd xs_1 i_1) = false := decide_eq_false c97
            have H' := Aside0.mk H
            clear H c1001 c1002 c97
            go_wp2
            go_roundg k1
            case measure => have := HK1.out; omega
            case rel => exact ⟨_, (wrap64 (i_1 + 1)), (by first | rfl | (simp; done) | (simp [*]; done)), H', ⟨by have := HK1.out; omega⟩, HU, HL, HB⟩
        · rw [if_neg c1002] at H
          exact absurd H (by simp)
      · rw [if_neg c1001] at H
        have c1001b0 : decide (i_1 < (m.size : Int)) = false := decide_eq_false (by omega)
        clear c1001
        obtain rfl := Option.some.inj H
        have hcr : Kd.C (Kd.int .u8) wr (some ⟨gu, 0, none⟩) xs_1.length xs_1 := HU.out.reads (by rw [hl1]; exact HMS.out)
        rw [hl1] at hcr
        have hcv := Kd.C_string (P := Tryd.prog) (A := some ⟨gu, 0, none⟩) (c := cu) Tryd.underlying22 Tryd.underlying5 Tryd.underlying9 hcr
        clear hcr
        by_cases hpc : pc = 0
        · obtain ⟨rfl, rfl⟩ := HZ.out.resolve_left (fun h_ => h_ hpc)
          subst hpc
          go_wp2_with (first
            | ((with_reducible refine gate_callee (f := 16) rfl ?_); refine goesL_ (some 80) rfl rfl Tryd.func16 (by kernel_rfl) rfl #[.string (strOfNums xs_1)] rfl wT ?_; (with_reducible refine (impl_ReadMac.calls k (strOfNums xs_1) (wrap64 (wrap64 (y * 16777216) + z)) 0 _ ?side1 E8.out).mono ?_); (case side1 => exact Door.c_below HD.out HB.out); rintro e v11 ⟨rfl, hb⟩; refine ⟨_, rfl, ?_⟩; have B11 := Aside0.mk (below_step HB.out hb); clear hb)
            | ((with_reducible refine gate_callee (f := 17) rfl ?_); refine goesL_ (some 108) rfl rfl Tryd.func17 (by kernel_rfl) rfl #[.slice A0 l0.length c0] rfl wT ?_; (with_reducible refine (spec_DrawReadPrefix.calls k A0 c0 l0 again _ ?side1 ?side2 E9.out).mono ?_); (case side1 => exact Kd.C_below HR.out B11.out); (case side2 => exact HC.out); rintro e v12 ⟨rfl, hb⟩; refine ⟨_, rfl, ?_⟩; have B12 := Aside0.mk (below_step B11.out hb); clear hb)
            | ((with_reducible refine gate_callee (f := 18) rfl ?_); refine goesL_ (some 111) rfl rfl Tryd.func18 (by kernel_rfl) rfl #[.string again] rfl wT ?_; (with_reducible refine (spec_ReadPrefix.calls k again pa pb 0 _ E10.out).mono ?_); rintro e v13 ⟨rfl, hb⟩; refine ⟨_, rfl, ?_⟩; have B13 := Aside0.mk (below_step B12.out hb); clear hb)
            | ((with_reducible refine gate_dst (N := 17) rfl ?_); (try (refine gate_guard (by rfl) ?_; dsimp only)); refine box_event ?hg (N := 17) ?hd (cs := #[.int .i64 0, .int .i64 0]) (t := 36) ?hr ?_; (case hd => rfl); (case hg => rfl); (case hr => first | (go_simp; done) | (go_simp; rfl)); intro gp hg v14 hbox hb; have B14 := Aside0.mk (below_step B13.out hb); have P14 := Aside0.mk hbox; have GP := Aside0.mk ((by rw [hg]; exact B13.out.size : w.heap.size ≤ gp)); clear hb hbox hg; obtain ⟨⟨hcp_0, hcp_1⟩, hfp_0, hfp_1⟩ := cells2 P14.out)
            | ((with_reducible refine gate_store (t := 36) (p := 17) rfl ?_); refine store_event (t := 36) (p := 17) (v := ?_) (w1 := ((v14.setCell ⟨gp, 0, none⟩ (.int .i64 pa)).setCell ⟨gp, 1, none⟩ (.int .i64 pb))) ?hg ?ho ?hn ?hr ?_; (case ho => rfl); (case hg => rfl); (case hn => rfl); (case hr => first | (go_simp; done) | (go_simp; rfl)); intro v15 hw; have P15 : Aside0 (v15.heap[gp]? = some (.cells #[.int .i64 pa, .int .i64 pb] 36 (0, 0))) := ⟨(by rw [hw]; refine blk_put (cs := #[.int .i64 pa, .int .i64 0]) ?_ 1 _ rfl; refine blk_put (cs := #[.int .i64 0, .int .i64 0]) ?_ 0 _ rfl; exact P14.out)⟩; have B15 : Aside0 (Below w.heap.size w v15) := ⟨(by rw [hw]; exact below_set (below_set B14.out GP.out) GP.out)⟩; clear hw hcp_0 hcp_1 hfp_0 hfp_1)
            | ((with_reducible refine gate_callee (f := 19) rfl ?_); refine goesL_ (some 116) rfl rfl Tryd.func19 (by kernel_rfl) rfl #[.string again] rfl wT ?_; (with_reducible refine (impl_ReadPrefix.calls k again pa pb 0 _ ?side1 E11.out).mono ?_); (case side1 => exact Door.c_below HD.out B15.out); rintro e v16 ⟨rfl, hb⟩; refine ⟨_, rfl, ?_⟩; have B16 := Aside0.mk (below_step B15.out hb); have P16 := Aside0.mk (blk_below P15.out hb); clear hb)
            | ((with_reducible refine gate_dst (N := 19) rfl ?_); (try (refine gate_guard (by rfl) ?_; dsimp only)); refine box_event ?hg (N := 19) ?hd (cs := #[.int .i64 0, .int .i64 0]) (t := 36) ?hr ?_; (case hd => rfl); (case hg => rfl); (case hr => first | (go_simp; done) | (go_simp; rfl)); intro gq hg v17 hbox hb; have B17 := Aside0.mk (below_step B16.out hb); have P17 := Aside0.mk (blk_below P16.out hb); have Q17 := Aside0.mk hbox; have GQ := Aside0.mk ((by rw [hg]; exact B16.out.size : w.heap.size ≤ gq)); have NE := Aside0.mk ((by rw [hg]; have := blk_lt P16.out; omega : gp ≠ gq)); clear hb hbox hg; obtain ⟨⟨hcq_0, hcq_1⟩, hfq_0, hfq_1⟩ := cells2 Q17.out)
            | ((with_reducible refine gate_store (t := 36) (p := 19) rfl ?_); refine store_event (t := 36) (p := 19) (v := ?_) (w1 := ((v17.setCell ⟨gq, 0, none⟩ (.int .i64 pa)).setCell ⟨gq, 1, none⟩ (.int .i64 pb))) ?hg ?ho ?hn ?hr ?_; (case ho => rfl); (case hg => rfl); (case hn => rfl); (case hr => first | (go_simp; done) | (go_simp; rfl)); intro v18 hw; have Q18 : Aside0 (v18.heap[gq]? = some (.cells #[.int .i64 pa, .int .i64 pb] 36 (0, 0))) := ⟨(by rw [hw]; refine blk_put (cs := #[.int .i64 pa, .int .i64 0]) ?_ 1 _ rfl; refine blk_put (cs := #[.int .i64 0, .int .i64 0]) ?_ 0 _ rfl; exact Q17.out)⟩; have P18 : Aside0 (v18.heap[gp]? = some (.cells #[.int .i64 pa, .int .i64 pb] 36 (0, 0))) := ⟨(by rw [hw]; exact (Below.heap_setCell _ _ _ _ NE.out).trans ((Below.heap_setCell _ _ _ _ NE.out).trans P17.out))⟩; have B18 : Aside0 (Below w.heap.size w v18) := ⟨(by rw [hw]; exact below_set (below_set B17.out GQ.out) GQ.out)⟩; clear hw hcq_0 hcq_1 hfq_0 hfq_1; obtain ⟨⟨hcp_0, hcp_1⟩, hfp_0, hfp_1⟩ := cells2 P18.out; obtain ⟨⟨hcq_0, hcq_1⟩, hfq_0, hfq_1⟩ := cells2 Q18.out)
            | ((with_reducible refine gate_callee (f := 20) rfl ?_); refine goesL_ (some 129) rfl rfl Tryd.func20 (by kernel_rfl) rfl #[.agg #[.int .i64 pa, .int .i64 pb]] rfl wT ?_; (with_reducible refine (impl_ShowPrefix.calls k pa pb again 0 _ ?side1 E12.out).mono ?_); (case side1 => exact Door.c_below HD.out B18.out); rintro e v19 ⟨rfl, hb⟩; refine ⟨_, rfl, ?_⟩; have B19 := Aside0.mk (below_step B18.out hb); clear hb))
          go_ret
          exact ⟨by first | rfl | (simp; done) | (simp [*]; done), B19.out⟩
        · have hpcb : decide (pc = 0) = false := decide_eq_false hpc
          go_wp2_with (first
            | ((with_reducible refine gate_callee (f := 16) rfl ?_); refine goesL_ (some 80) rfl rfl Tryd.func16 (by kernel_rfl) rfl #[.string (strOfNums xs_1)] rfl wT ?_; (with_reducible refine (impl_ReadMac.calls k (strOfNums xs_1) (wrap64 (wrap64 (y * 16777216) + z)) 0 _ ?side1 E8.out).mono ?_); (case side1 => exact Door.c_below HD.out HB.out); rintro e v11 ⟨rfl, hb⟩; refine ⟨_, rfl, ?_⟩; have B11 := Aside0.mk (below_step HB.out hb); clear hb)
            | ((with_reducible refine gate_callee (f := 17) rfl ?_); refine goesL_ (some 108) rfl rfl Tryd.func17 (by kernel_rfl) rfl #[.slice A0 l0.length c0] rfl wT ?_; (with_reducible refine (spec_DrawReadPrefix.calls k A0 c0 l0 txt _ ?side1 ?side2 E9.out).mono ?_); (case side1 => exact Kd.C_below HR.out B11.out); (case side2 => exact HC.out); rintro e v12 ⟨rfl, hb⟩; refine ⟨_, rfl, ?_⟩; have B12 := Aside0.mk (below_step B11.out hb); clear hb)
            | ((with_reducible refine gate_callee (f := 18) rfl ?_); refine goesL_ (some 111) rfl rfl Tryd.func18 (by kernel_rfl) rfl #[.string txt] rfl wT ?_; (with_reducible refine (spec_ReadPrefix.calls k txt pa pb pc _ E10.out).mono ?_); rintro e v13 ⟨rfl, hb⟩; refine ⟨_, rfl, ?_⟩; have B13 := Aside0.mk (below_step B12.out hb); clear hb)
            | ((with_reducible refine gate_dst (N := 17) rfl ?_); (try (refine gate_guard (by rfl) ?_; dsimp only)); refine box_event ?hg (N := 17) ?hd (cs := #[.int .i64 0, .int .i64 0]) (t := 36) ?hr ?_; (case hd => rfl); (case hg => rfl); (case hr => first | (go_simp; done) | (go_simp; rfl)); intro gp hg v14 hbox hb; have B14 := Aside0.mk (below_step B13.out hb); have P14 := Aside0.mk hbox; have GP := Aside0.mk ((by rw [hg]; exact B13.out.size : w.heap.size ≤ gp)); clear hb hbox hg; obtain ⟨⟨hcp_0, hcp_1⟩, hfp_0, hfp_1⟩ := cells2 P14.out)
            | ((with_reducible refine gate_store (t := 36) (p := 17) rfl ?_); refine store_event (t := 36) (p := 17) (v := ?_) (w1 := ((v14.setCell ⟨gp, 0, none⟩ (.int .i64 pa)).setCell ⟨gp, 1, none⟩ (.int .i64 pb))) ?hg ?ho ?hn ?hr ?_; (case ho => rfl); (case hg => rfl); (case hn => rfl); (case hr => first | (go_simp; done) | (go_simp; rfl)); intro v15 hw; have P15 : Aside0 (v15.heap[gp]? = some (.cells #[.int .i64 pa, .int .i64 pb] 36 (0, 0))) := ⟨(by rw [hw]; refine blk_put (cs := #[.int .i64 pa, .int .i64 0]) ?_ 1 _ rfl; refine blk_put (cs := #[.int .i64 0, .int .i64 0]) ?_ 0 _ rfl; exact P14.out)⟩; have B15 : Aside0 (Below w.heap.size w v15) := ⟨(by rw [hw]; exact below_set (below_set B14.out GP.out) GP.out)⟩; clear hw hcp_0 hcp_1 hfp_0 hfp_1)
            | ((with_reducible refine gate_callee (f := 19) rfl ?_); refine goesL_ (some 116) rfl rfl Tryd.func19 (by kernel_rfl) rfl #[.string txt] rfl wT ?_; (with_reducible refine (impl_ReadPrefix.calls k txt pa pb pc _ ?side1 E11.out).mono ?_); (case side1 => exact Door.c_below HD.out B15.out); rintro e v16 ⟨rfl, hb⟩; refine ⟨_, rfl, ?_⟩; have B16 := Aside0.mk (below_step B15.out hb); have P16 := Aside0.mk (blk_below P15.out hb); clear hb)
            | ((with_reducible refine gate_dst (N := 19) rfl ?_); (try (refine gate_guard (by rfl) ?_; dsimp only)); refine box_event ?hg (N := 19) ?hd (cs := #[.int .i64 0, .int .i64 0]) (t := 36) ?hr ?_; (case hd => rfl); (case hg => rfl); (case hr => first | (go_simp; done) | (go_simp; rfl)); intro gq hg v17 hbox hb; have B17 := Aside0.mk (below_step B16.out hb); have P17 := Aside0.mk (blk_below P16.out hb); have Q17 := Aside0.mk hbox; have GQ := Aside0.mk ((by rw [hg]; exact B16.out.size : w.heap.size ≤ gq)); have NE := Aside0.mk ((by rw [hg]; have := blk_lt P16.out; omega : gp ≠ gq)); clear hb hbox hg; obtain ⟨⟨hcq_0, hcq_1⟩, hfq_0, hfq_1⟩ := cells2 Q17.out)
            | ((with_reducible refine gate_store (t := 36) (p := 19) rfl ?_); refine store_event (t := 36) (p := 19) (v := ?_) (w1 := ((v17.setCell ⟨gq, 0, none⟩ (.int .i64 pa)).setCell ⟨gq, 1, none⟩ (.int .i64 pb))) ?hg ?ho ?hn ?hr ?_; (case ho => rfl); (case hg => rfl); (case hn => rfl); (case hr => first | (go_simp; done) | (go_simp; rfl)); intro v18 hw; have Q18 : Aside0 (v18.heap[gq]? = some (.cells #[.int .i64 pa, .int .i64 pb] 36 (0, 0))) := ⟨(by rw [hw]; refine blk_put (cs := #[.int .i64 pa, .int .i64 0]) ?_ 1 _ rfl; refine blk_put (cs := #[.int .i64 0, .int .i64 0]) ?_ 0 _ rfl; exact Q17.out)⟩; have P18 : Aside0 (v18.heap[gp]? = some (.cells #[.int .i64 pa, .int .i64 pb] 36 (0, 0))) := ⟨(by rw [hw]; exact (Below.heap_setCell _ _ _ _ NE.out).trans ((Below.heap_setCell _ _ _ _ NE.out).trans P17.out))⟩; have B18 : Aside0 (Below w.heap.size w v18) := ⟨(by rw [hw]; exact below_set (below_set B17.out GQ.out) GQ.out)⟩; clear hw hcq_0 hcq_1 hfq_0 hfq_1; obtain ⟨⟨hcp_0, hcp_1⟩, hfp_0, hfp_1⟩ := cells2 P18.out; obtain ⟨⟨hcq_0, hcq_1⟩, hfq_0, hfq_1⟩ := cells2 Q18.out)
            | ((with_reducible refine gate_callee (f := 20) rfl ?_); refine goesL_ (some 129) rfl rfl Tryd.func20 (by kernel_rfl) rfl #[.agg #[.int .i64 pa, .int .i64 pb]] rfl wT ?_; (with_reducible refine (impl_ShowPrefix.calls k pa pb again ac _ ?side1 E12.out).mono ?_); (case side1 => exact Door.c_below HD.out B18.out); rintro e v19 ⟨rfl, hb⟩; refine ⟨_, rfl, ?_⟩; have B19 := Aside0.mk (below_step B18.out hb); clear hb))
          go_ret
          exact ⟨by first | rfl | (simp; done) | (simp [*]; done), B19.out⟩
/-- what the law asks of the functions that it calls -/
def laws_FnAddrText.B (k : Nat) (l0 : List Int) : Prop := (l0.length : Int) > 1048576 ∨ ((l0.length : Int) ≤ 1048576 ∧ ∃ (p0 s0 x p1 s1 y p2 s2 z p3 s3 : Int) (t m : ByteArray) (ys : List Int) (txt : ByteArray) (pa pb pc : Int) (again : ByteArray) (ac : Int),
  laws_lwBegin.f k l0 4 = some (p0, s0) ∧ laws_lwNext.f l0 p0 s0 2147483648 = some (x, p1, s1) ∧ laws_lwNext.f l0 p1 s1 16777216 = some (y, p2, s2) ∧ laws_lwNext.f l0 p2 s2 16777216 = some (z, p3, s3) ∧
  impl_ShowAddr.f k (wrap64 (x * 2)) = some (t, 0) ∧ impl_ReadAddr.f k t = some (wrap64 (x * 2), 0) ∧ impl_ShowMac.f k (wrap64 (wrap64 (y * 16777216) + z)) = some (m, 0) ∧ m.size ≤ 9223372036854775807 ∧ laws_FnAddrText.l0 k (bytesOf m) 0 = some ys ∧ impl_ReadMac.f k (strOfNums ys) = some (wrap64 (wrap64 (y * 16777216) + z), 0) ∧
  spec_DrawReadPrefix.f k l0 = some txt ∧ spec_ReadPrefix.f k txt = some (pa, pb, pc) ∧ impl_ReadPrefix.f k txt = some (pa, pb, pc) ∧ impl_ShowPrefix.f k pa pb = some (again, ac) ∧ (pc ≠ 0 ∨ ac = 0 ∧ again = txt))
/-- what the law answers, where all that holds -/
noncomputable def laws_FnAddrText.f (k : Nat) (l0 : List Int) : Option Bool := @ite (Option Bool) (laws_FnAddrText.B k l0) (Classical.propDecidable _) (some true) none
theorem laws_FnAddrText.calls (k : Nat) (A0 : Option Addr) (c0 : Nat) (l0 : List Int) (r : Bool) (w : World) (hr0 : Kd.C (Kd.int .u8) w A0 l0.length l0) (hc0 : l0.length ≤ c0) (hd : Door w) (h : laws_FnAddrText.f k l0 = some r) :
    Calls Tryd.prog 3 #[.slice A0 l0.length c0] w fun e w' => e = .returned (.bool r) ∧ Below w.heap.size w w' := by
  unfold laws_FnAddrText.f at h
  by_cases hb : laws_FnAddrText.B k l0
  · rw [if_pos hb] at h
    obtain rfl := Option.some.inj h
    rcases hb with hb | ⟨hl, p0, s0, x, p1, s1, y, p2, s2, z, p3, s3, t, m, ys, txt, pa, pb, pc, again, ac, e1, e2, e3, e4, e5, e6, e7, hm, eu, e8, e9, e10, e11, e12, hz⟩
    · exact laws_FnAddrText.great A0 c0 l0 w hb
    · exact laws_FnAddrText.whole k A0 c0 l0 p0 s0 x p1 s1 y p2 s2 z p3 s3 _ _ t m ys txt pa pb pc again ac w hr0 hc0 hd hl e1 e2 e3 e4 rfl rfl e5 e6 e7 hm eu e8 e9 e10 e11 e12 hz
  · rw [if_neg hb] at h
    cases h


end Go.Proofs.YtnnplkhjmdbmbaaDoor.PFnAddrText
