-- Written for this claim by a program of this session (wip/mkprint.py: the print, turned at a few places). Not trusted: Lean checks it.
import Derived.Test.YtckhadlmhbhngaaPFnComplainx0
import Derived.Test.YtckhadlmhbhngaaPFnComplainx5
import Derived.Test.YtckhadlmhbhngaaPFnComplainx6
import Derived.Test.YtckhadlmhbhngaaPFnComplainx7
import Derived.Test.YtckhadlmhbhngaaPFnComplainx8
namespace Go.Proofs.Ytckhadlmhbhngaa.PFnComplain
open Go.RowKit Go.Proofs.YtckhadlmhbhngaaW.PrintWords Go.Proofs.YtckhadlmhbhngaaW.PrintLast Go.Proofs.YtckhadlmhbhngaaW.PrintMore
attribute [local go_sem] max2_int min2_int max_two min_two max_three min_three max_four min_four   -- for this text's walks alone
set_option linter.unusedVariables false
set_option linter.unusedSimpArgs false

/-! ### spec_DrawComplain: function 20 -/
/-! ### spec_DrawComplain: function 20, walked by hand -/
def spec_DrawComplain.f (k : Nat) (c : List Int) : Option (Int × Int × Bool × Bool × Int × Int × Int × Int × Int × List Int × List Int × Int × Int × Int × Int) := (spec_l01Sub.f k c 2).bind fun a => ((spec_DrawMayComplain.f k c).bind fun q => ((spec_l01Next.f a.1 a.2.1 a.2.2 5).bind fun b => if 0 ≤ b.1 then (if b.1 < 5 then ((spec_l02Host.f a.1 b.2.1 b.2.2).bind fun d => ((spec_l01Next.f a.1 d.2.1 d.2.2 14).bind fun e => ((spec_l01Next.f a.1 e.2.1 e.2.2 1500).bind fun f => ((spec_l01Next.f a.1 f.2.1 f.2.2 16).bind fun y => if y.1 = 0 then some (q.1, q.2.1, q.2.2.1, q.2.2.2.1, q.2.2.2.2.1, q.2.2.2.2.2.1, q.2.2.2.2.2.2.1, q.2.2.2.2.2.2.2.1, q.2.2.2.2.2.2.2.2.1, q.2.2.2.2.2.2.2.2.2.1, q.2.2.2.2.2.2.2.2.2.2, (-1), rd ([3, 11, 3, 11, 8] : List Int) b.1, e.1, f.1) else if y.1 = 1 then some (q.1, q.2.1, q.2.2.1, q.2.2.2.1, q.2.2.2.2.1, q.2.2.2.2.2.1, q.2.2.2.2.2.2.1, q.2.2.2.2.2.2.2.1, q.2.2.2.2.2.2.2.2.1, q.2.2.2.2.2.2.2.2.2.1, q.2.2.2.2.2.2.2.2.2.2, d.1, rd ([3, 11, 3, 11, 8] : List Int) b.1, 256, f.1) else if y.1 = 2 then some (q.1, q.2.1, q.2.2.1, q.2.2.2.1, q.2.2.2.2.1, q.2.2.2.2.2.1, q.2.2.2.2.2.2.1, q.2.2.2.2.2.2.2.1, q.2.2.2.2.2.2.2.2.1, q.2.2.2.2.2.2.2.2.2.1, q.2.2.2.2.2.2.2.2.2.2, d.1, rd ([3, 11, 3, 11, 8] : List Int) b.1, e.1, (-1)) else some (q.1, q.2.1, q.2.2.1, q.2.2.2.1, q.2.2.2.2.1, q.2.2.2.2.2.1, q.2.2.2.2.2.2.1, q.2.2.2.2.2.2.2.1, q.2.2.2.2.2.2.2.2.1, q.2.2.2.2.2.2.2.2.2.1, q.2.2.2.2.2.2.2.2.2.2, d.1, rd ([3, 11, 3, 11, 8] : List Int) b.1, e.1, f.1))))) else none) else none))
theorem spec_DrawComplain.mono : ∀ y0 k, LeO (spec_DrawComplain.f k y0) (spec_DrawComplain.f (k + 1) y0) := by
  intro y0 k
  unfold spec_DrawComplain.f
  repeat' first
    | (with_reducible exact spec_l01Sub.mono _ _ _)
    | (with_reducible exact spec_DrawMayComplain.mono _ _)
    | (with_reducible exact LeO.refl _)
    | (with_reducible exact LeO.none _)
    | (with_reducible refine LeO.ite ?_ ?_)
    | (with_reducible refine LeO.bind ?_ (fun _ => ?_))
theorem spec_DrawComplain.res5 {P : Program} {fn : Func} {p u v x y : Tmp} {ty : TypeId} (h : fn.results = #[.cell p ty, .tmp u, .tmp v, .tmp x, .tmp y]) (tmps : Array Value) (w : World) (g : Nat) (t : TypeId) (cs : Array Value) (fr : Nat × Nat) (d : TypeDesc)
    (hp : tmps.getD p undef = .pointer (some ⟨g, 0, none⟩)) (hg : w.heap[g]? = some (.cells cs t fr))
    (hu : P.underlying ty = some d) (hd : (match d with | .struct _ | .array _ _ => true | _ => false) = true) (hi : (P.info? ty).map (·.size) = some cs.size) :
    (results fn tmps).run P w = .ok (.tuple #[.agg cs, tmps.getD u undef, tmps.getD v undef, tmps.getD x undef, tmps.getD y undef]) w := by
  have hp' : tmps[p]?.getD undef = .pointer (some ⟨g, 0, none⟩) := by simpa using hp
  simp [results, h, hp', asAddr, run_loadVar_row w g t ty cs fr d hg hu hd hi]
set_option maxHeartbeats 60000000 in
set_option maxRecDepth 100000 in
theorem spec_DrawComplain.calls (k : Nat) (A0 : Option Addr) (c0 : Nat) (c : List Int) (r1 : Int) (r2 : Int) (r3 : Bool) (r4 : Bool) (r5 : Int) (r6 : Int) (r7 : Int) (r8 : Int) (r9 : Int) (aa : List Int) (ab : List Int) (ac : Int) (ad : Int) (ae : Int) (af : Int) (w : World) (hr0 : Kd.C (Kd.int .u8) w A0 c.length c) (hc0 : c.length ≤ c0) (h : spec_DrawComplain.f k c = some (r1, r2, r3, r4, r5, r6, r7, r8, r9, aa, ab, ac, ad, ae, af)) :
    Calls Try.prog 20 #[.slice A0 c.length c0] w fun e w' => ∃ v9_ v10_ : Value, e = .returned (.tuple #[.agg #[.int .i64 r1, .int .i64 r2, .bool r3, .bool r4, .int .i64 r5, .int .i64 r6, .int .i64 r7, .int .i64 r8, .int .i64 r9, v9_, v10_], .int .i64 ac, .int .i64 ad, .int .i64 ae, .int .i64 af]) ∧ Kd.R (Kd.int .u8) 5 w' w.heap.size (fun k_ => some k_ ≠ (v10_ : Value).ownBlock) v9_ aa ∧ Kd.R (Kd.int .u8) 5 w' w.heap.size (fun k_ => some k_ ≠ (v9_ : Value).ownBlock) v10_ ab ∧ Below w.heap.size w w' := by
 have hu25 := Try.underlying25
 have hu61 := Try.underlying61
 have HR0 := Aside0.mk hr0
 have ag := Aside0.mk hc0
 clear hr0 hc0
 have HB := Aside0.mk (Below.refl w.heap.size w)
 have H : spec_DrawComplain.f k c = some (r1, r2, r3, r4, r5, r6, r7, r8, r9, aa, ab, ac, ad, ae, af) := h
 clear h
 unfold spec_DrawComplain.f at H
 replace H := Option.bind_eq_some_iff.mp H
 obtain ⟨⟨sl, p0, t0⟩, A, H⟩ := H
 dsimp only at A H
 have EA := Aside0.mk A
 clear A
 replace H := Option.bind_eq_some_iff.mp H
 obtain ⟨⟨x0, x1, x2, x3, x4, x5, x6, x7, x8, ol, dl⟩, A, H⟩ := H
 dsimp only at A H
 have EB := Aside0.mk A
 clear A
 replace H := Option.bind_eq_some_iff.mp H
 obtain ⟨⟨m, p1, t1⟩, A, H⟩ := H
 dsimp only at A H
 have E1 := Aside0.mk A
 clear A
 by_cases e1 : 0 ≤ m
 rotate_left
 · rw [if_neg e1] at H
   cases H
 rw [if_pos e1] at H
 by_cases e2 : m < 5
 rotate_left
 · rw [if_neg e2] at H
   cases H
 rw [if_pos e2] at H
 obtain ⟨kd, hkd⟩ : ∃ x_ : Int, x_ = rd ([3, 11, 3, 11, 8] : List Int) m := ⟨_, rfl⟩
 rw [← hkd] at H
 have HKD := Aside0.mk hkd
 clear hkd
 replace H := Option.bind_eq_some_iff.mp H
 obtain ⟨⟨d, p2, t2⟩, A, H⟩ := H
 dsimp only at A H
 have E2 := Aside0.mk A
 clear A
 replace H := Option.bind_eq_some_iff.mp H
 obtain ⟨⟨e, p3, t3⟩, A, H⟩ := H
 dsimp only at A H
 have E3 := Aside0.mk A
 clear A
 replace H := Option.bind_eq_some_iff.mp H
 obtain ⟨⟨f, p4, t4⟩, A, H⟩ := H
 dsimp only at A H
 have E4 := Aside0.mk A
 clear A
 replace H := Option.bind_eq_some_iff.mp H
 obtain ⟨⟨y, p5, t5⟩, A, H⟩ := H
 dsimp only at A H
 have E5 := Aside0.mk A
 clear A
 have HJ := Aside0.mk H
 clear H
 go_enter Try.func20, Try.ntmps20
 go_upto_region 4 with (first | ((with_reducible refine gate_dst (N := 2) rfl ?_); refine boxE 2 #[.int .i64 0, .int .i64 0, .bool false, .bool false, .int .i64 0, .int .i64 0, .int .i64 0, .int .i64 0, .int .i64 0, .slice none 0 0, .slice none 0 0] 25 ?_; intro g4 hg v1 hbox hb; have K4 := Aside0.mk hbox; have X4 := Aside0.mk ((by rw [hg]; exact HB.out.size) : w.heap.size ≤ g4); replace HB := Aside0.mk (below_step HB.out hb); clear hb hbox hg) | ((with_reducible refine gate_callee (f := 58) rfl ?_); refine gL (some 14) Try.func58 #[.slice A0 c.length c0, .int .u8 2] ?_; (with_reducible refine (spec_l01Sub.calls k _ _ c 2 sl p0 t0 _ ?side1 ?side2 EA.out).mono ?_); (case side1 => exact Kd.C_below HR0.out HB.out); (case side2 => exact ag.out); rintro e_ v2 ⟨vs, rfl, ho, hb⟩; obtain ⟨As, cs, rfl⟩ := Kd.R_slice ho; refine ⟨_, rfl, ?_⟩; have HS := Aside0.mk ho; replace K4 := Aside0.mk (blk_below K4.out hb); replace HB := Aside0.mk (below_step HB.out hb); clear ho hb) | ((with_reducible refine gate_dst (N := 7) rfl ?_); refine boxE 7 #[.slice none 0 0, .int .i64 0, .int .u64 0] 61 ?_; intro g hg v3 hbox hb; have KS := Aside0.mk hbox; have XS := Aside0.mk ((by rw [hg]; exact Nat.le_refl _) : v2.heap.size ≤ g); have N4 := Aside0.mk ((by rw [hg]; exact Nat.ne_of_lt (blk_lt K4.out)) : g4 ≠ g); replace K4 := Aside0.mk (blk_below K4.out hb); have HB2 := Aside0.mk hb; clear hb hbox hg; obtain ⟨⟨hcs0, hcs1, hcs2⟩, hfs0, hfs1, hfs2⟩ := cells3 KS.out) | ((with_reducible refine gate_store (t := 61) (p := 7) rfl ?_); refine storeE (put3 v3 g (.slice As sl.length cs) (.int .i64 p0) (.int .u64 t0)) ?_; intro v4 hw; have hB4 : Below v2.heap.size v2 v4 := (by rw [hw]; exact below_set (below_set (below_set HB2.out XS.out) XS.out) XS.out); have S : Aside0 (St v2 v2 g sl g4 p0 t0 v4) := ⟨⟨⟨As, cs, (by rw [hw]; exact set3 KS.out), XS.out, (Kd.R_reads' HS.out).2.2⟩, hB4, KeepBut.of_below hB4 g none, (by rw [hw]; exact (far3 N4.out).trans K4.out)⟩⟩; clear hw hB4 KS K4 HB2 hcs0 hcs1 hcs2 hfs0 hfs1 hfs2) | ((with_reducible refine gate_callee (f := 59) rfl ?_); refine gL (some 16) Try.func59 #[.slice A0 c.length c0] ?_; (with_reducible refine (spec_DrawMayComplain.calls k _ _ c x0 x1 x2 x3 x4 x5 x6 x7 x8 ol dl _ ?side1 ?side2 EB.out).mono ?_); (case side1 => exact Kd.C_below HR0.out (below_weaken HB.out HB.out.size S.out.2.1)); (case side2 => exact ag.out); rintro e_ v5 ⟨vo, vd, rfl, ho, hd, hb⟩; obtain ⟨Ao, co, rfl⟩ := Kd.R_slice ho; obtain ⟨Ad, cd, rfl⟩ := Kd.R_slice hd; refine ⟨_, rfl, ?_⟩; have O := Aside0.mk (Kd.R_lower ho (below_weaken HB.out HB.out.size S.out.2.1).size); have D := Aside0.mk (Kd.R_lower hd (below_weaken HB.out HB.out.size S.out.2.1).size); replace S := Aside0.mk (S.out.made hb); clear ho hd hb) | ((with_reducible refine gate_dst (N := 8) rfl ?_); refine boxE 8 #[.int .i64 0, .int .i64 0, .bool false, .bool false, .int .i64 0, .int .i64 0, .int .i64 0, .int .i64 0, .int .i64 0, .slice none 0 0, .slice none 0 0] 25 ?_; intro g5 hg v6 hbox hb; have K5 := Aside0.mk hbox; have GX : Aside0 (v2.heap.size ≤ g5 ∧ v2.heap.size ≤ g5 ∧ g5 ≠ g ∧ g4 ≠ g5) := ⟨(by rw [hg]; exact ⟨keep_size S.out.2.2.1, keep_size S.out.2.2.1, IsS61.fresh S.out.1 _ (Nat.le_refl _), Nat.ne_of_lt (blk_lt S.out.2.2.2)⟩)⟩; replace O := Aside0.mk (Kd.R_below O.out hb); replace D := Aside0.mk (Kd.R_below D.out hb); replace S := Aside0.mk (S.out.made hb); clear hb hbox hg; obtain ⟨⟨hczs_0, hczs_1, hczs_2, hczs_3, hczs_4, hczs_5, hczs_6, hczs_7, hczs_8, hczs_9, hczs_10⟩, hfzs_0, hfzs_1, hfzs_2, hfzs_3, hfzs_4, hfzs_5, hfzs_6, hfzs_7, hfzs_8, hfzs_9, hfzs_10⟩ := cells11 K5.out) | ((with_reducible refine gate_store (t := 25) (p := 8) rfl ?_); refine storeE (put11 v6 g5 (.int .i64 x0) (.int .i64 x1) (.bool x2) (.bool x3) (.int .i64 x4) (.int .i64 x5) (.int .i64 x6) (.int .i64 x7) (.int .i64 x8) (.slice Ao ol.length co) (.slice Ad dl.length cd)) ?_; intro v7 hw; replace S : Aside0 (St v2 v2 g sl g4 p0 t0 v7) := ⟨by rw [hw]; exact S.out.put GX.out⟩; replace O : Aside0 (Kd.R (Kd.int .u8) 5 v7 w.heap.size (fun k_ => some k_ ≠ ((.slice Ad dl.length cd) : Value).ownBlock) (.slice Ao ol.length co) ol) := ⟨by rw [hw]; exact row_put O.out K5.out⟩; replace D : Aside0 (Kd.R (Kd.int .u8) 5 v7 w.heap.size (fun k_ => some k_ ≠ ((.slice Ao ol.length co) : Value).ownBlock) (.slice Ad dl.length cd) dl) := ⟨by rw [hw]; exact row_put D.out K5.out⟩; replace K5 : Aside0 (v7.heap[g5]? = some (.cells #[.int .i64 x0, .int .i64 x1, .bool x2, .bool x3, .int .i64 x4, .int .i64 x5, .int .i64 x6, .int .i64 x7, .int .i64 x8, .slice Ao ol.length co, .slice Ad dl.length cd] 25 (0, 0))) := ⟨by rw [hw]; exact set11 K5.out⟩; clear hw; clear hczs_0 hfzs_0 hczs_1 hfzs_1 hczs_2 hfzs_2 hczs_3 hfzs_3 hczs_4 hfzs_4 hczs_5 hfzs_5 hczs_6 hfzs_6 hczs_7 hfzs_7 hczs_8 hfzs_8 hczs_9 hfzs_9 hczs_10 hfzs_10) | ((with_reducible refine gate_dst (N := 17) rfl ?_); refine Kd.R_lit (Kd.int .i64) _ 2 ?hg (N := 17) ?hd (xs := ([3, 11, 3, 11, 8] : List Int)) (inner := [.int .i64 3, .int .i64 11, .int .i64 3, .int .i64 11, .int .i64 8]) (ok := fun _ => True) (okp := fun _ => True) ?hr ?hp (fun _ hk => hk) trivial (Below.refl _ _) (Nat.le_refl _) (by simp) ?_; (case hd => rfl); (case hg => rfl); (case hr => first | (go_simp; done) | (go_simp; rfl)); (case hp => exact (Reps.one (show Kd.M (Kd.int .i64) _ _ _ 3 [.int .i64 3] from rfl) (Reps.one (show Kd.M (Kd.int .i64) _ _ _ 11 [.int .i64 11] from rfl) (Reps.one (show Kd.M (Kd.int .i64) _ _ _ 3 [.int .i64 3] from rfl) (Reps.one (show Kd.M (Kd.int .i64) _ _ _ 11 [.int .i64 11] from rfl) (Reps.one (show Kd.M (Kd.int .i64) _ _ _ 8 [.int .i64 8] from rfl) (Reps.none _ _))))))); intro ah v8 ho hb _ _; obtain ⟨Al, nl, rfl⟩ := Kd.R_slice ho; obtain ⟨al, rfl, _⟩ := Kd.at_int (Kd.R_reads' ho).2.2 0 (by decide) (by decide); have L := Aside0.mk ho; replace O := Aside0.mk (Kd.R_below O.out hb); replace D := Aside0.mk (Kd.R_below D.out hb); replace K5 := Aside0.mk (blk_below K5.out hb); replace S := Aside0.mk (S.out.made hb); clear ho hb) | ((with_reducible refine gate_callee (f := 30) rfl ?_); refine gL (some 18) Try.func30 #[.pointer (some ⟨g, 0, none⟩), .int .i64 5] ?_; (with_reducible refine (spec_l01Next.calls g sl p0 t0 5 m p1 t1 v2 _ ?side1 ?side2 E1.out).mono ?_); (case side1 => exact St.i S); (case side2 => exact St.b S); rintro e_ v9 ⟨rfl, hi, hb, hk⟩; refine ⟨_, rfl, ?_⟩; have L2 := S.out.row L.out hk; replace O := Aside0.mk (S.out.row O.out hk); replace D := Aside0.mk (S.out.row D.out hk); replace K5 := Aside0.mk (KeepBut.blk hk K5.out GX.out.2.2.1 (by simp)); replace S := Aside0.mk (S.out.call N4.out hi hb hk); clear hi hb hk L; obtain ⟨aq, eq_, hx⟩ := Kd.at_int (Kd.R_reads' L2).2.2 m e1 e2; obtain rfl : al = aq := (by injection eq_); clear eq_ L2; rw [← HKD.out] at hx; have q1 := eq_true e1; have q2 : (m < ((([3, 11, 3, 11, 8] : List Int)).length : Int)) = True := eq_true e2; have q3 : decide (0 ≤ m) = true := decide_eq_true e1; have q4 : decide (m < 5) = true := decide_eq_true e2))
 (try simp only [Act.put, List.setIfInBounds_toArray, List.set_cons_zero, List.set_cons_succ])
 clear hx q1 q2 q3 q4
 go_upto_region 5 with (first | (go_at_call 43; (with_reducible refine (spec_l02Host.calls g sl p1 t1 d p2 t2 v2 _ ?side1 ?side2 E2.out).mono ?_); (case side1 => exact St.i S); (case side2 => exact St.b S); rintro e_ ai ⟨rfl, hi, hb, hk⟩; replace O := Aside0.mk (S.out.row O.out hk); replace D := Aside0.mk (S.out.row D.out hk); replace K5 := Aside0.mk (KeepBut.blk hk K5.out GX.out.2.2.1 (by simp)); replace S := Aside0.mk (S.out.call N4.out hi hb hk); clear hi hb hk))
 (try simp only [Act.put, List.setIfInBounds_toArray, List.set_cons_zero, List.set_cons_succ])
 go_upto_region 6 with (first | (go_at_call 30; (with_reducible refine (spec_l01Next.calls g sl p2 t2 14 e p3 t3 v2 _ ?side1 ?side2 E3.out).mono ?_); (case side1 => exact St.i S); (case side2 => exact St.b S); rintro e_ aj ⟨rfl, hi, hb, hk⟩; replace O := Aside0.mk (S.out.row O.out hk); replace D := Aside0.mk (S.out.row D.out hk); replace K5 := Aside0.mk (KeepBut.blk hk K5.out GX.out.2.2.1 (by simp)); replace S := Aside0.mk (S.out.call N4.out hi hb hk); clear hi hb hk))
 (try simp only [Act.put, List.setIfInBounds_toArray, List.set_cons_zero, List.set_cons_succ])
 go_upto_region 7 with (first | (go_at_call 30; (with_reducible refine (spec_l01Next.calls g sl p3 t3 1500 f p4 t4 v2 _ ?side1 ?side2 E4.out).mono ?_); (case side1 => exact St.i S); (case side2 => exact St.b S); rintro e_ ak ⟨rfl, hi, hb, hk⟩; replace O := Aside0.mk (S.out.row O.out hk); replace D := Aside0.mk (S.out.row D.out hk); replace K5 := Aside0.mk (KeepBut.blk hk K5.out GX.out.2.2.1 (by simp)); replace S := Aside0.mk (S.out.call N4.out hi hb hk); clear hi hb hk))
 (try simp only [Act.put, List.setIfInBounds_toArray, List.set_cons_zero, List.set_cons_succ])
 go_upto_block 0 with (first | (go_at_call 30; (with_reducible refine (spec_l01Next.calls g sl p4 t4 16 y p5 t5 v2 _ ?side1 ?side2 E5.out).mono ?_); (case side1 => exact St.i S); (case side2 => exact St.b S); rintro e_ wa ⟨rfl, hi, hb, hk⟩; replace O := Aside0.mk (S.out.row O.out hk); replace D := Aside0.mk (S.out.row D.out hk); replace K5 := Aside0.mk (KeepBut.blk hk K5.out GX.out.2.2.1 (by simp)); replace S := Aside0.mk (S.out.call N4.out hi hb hk); clear hi hb hk))
 (try simp only [Act.put, List.setIfInBounds_toArray, List.set_cons_zero, List.set_cons_succ])
 go_cut [10, 11, 12] (fun v10_ v11_ v12_ wc => ∃ (a b f_ : Int), v10_ = .int .i64 a ∧ v11_ = .int .i64 b ∧ v12_ = .int .i64 f_ ∧ Aside0 (some (x0, x1, x2, x3, x4, x5, x6, x7, x8, ol, dl, a, kd, b, f_) = some (r1, r2, r3, r4, r5, r6, r7, r8, r9, aa, ab, ac, ad, ae, af)) ∧ Aside0 (St v2 v2 g sl g4 p5 t5 wc) ∧ Aside0 (Kd.R (Kd.int .u8) 5 wc w.heap.size (fun k_ => some k_ ≠ ((.slice Ad dl.length cd) : Value).ownBlock) (.slice Ao ol.length co) ol) ∧ Aside0 (Kd.R (Kd.int .u8) 5 wc w.heap.size (fun k_ => some k_ ≠ ((.slice Ao ol.length co) : Value).ownBlock) (.slice Ad dl.length cd) dl) ∧ Aside0 (wc.heap[g5]? = some (.cells #[.int .i64 x0, .int .i64 x1, .bool x2, .bool x3, .int .i64 x4, .int .i64 x5, .int .i64 x6, .int .i64 x7, .int .i64 x8, .slice Ao ol.length co, .slice Ad dl.length cd] 25 (0, 0))))
 case first =>
  have H := HJ.out
  clear HJ
  by_cases b0 : y = 0
  · rw [if_pos b0] at H
    have b0b : ((y) == 0) = true := beq_iff_eq.mpr b0
    have b0c : ((y) != 0) = false := bne_eq_false_iff_eq.mpr b0
    clear b0
    have HJ := Aside0.mk H
    clear H
    go_wp2
    go_meet
    case rel => exact ⟨-1, e, f, eZ, eZ, eZ, HJ, S, O, D, K5⟩
  rw [if_neg b0] at H
  have b0b : ((y) == 0) = false := beq_eq_false_iff_ne.mpr b0
  have b0c : ((y) != 0) = true := bne_iff_ne.mpr b0
  clear b0
  by_cases b1 : y = 1
  · rw [if_pos b1] at H
    have b1b : ((y) == 1) = true := beq_iff_eq.mpr b1
    have b1c : ((y) != 1) = false := bne_eq_false_iff_eq.mpr b1
    clear b1
    have HJ := Aside0.mk H
    clear H
    go_wp2
    go_meet
    case rel => exact ⟨d, 256, f, eZ, eZ, eZ, HJ, S, O, D, K5⟩
  rw [if_neg b1] at H
  have b1b : ((y) == 1) = false := beq_eq_false_iff_ne.mpr b1
  have b1c : ((y) != 1) = true := bne_iff_ne.mpr b1
  clear b1
  by_cases b2 : y = 2
  · rw [if_pos b2] at H
    have b2b : ((y) == 2) = true := beq_iff_eq.mpr b2
    have b2c : ((y) != 2) = false := bne_eq_false_iff_eq.mpr b2
    clear b2
    have HJ := Aside0.mk H
    clear H
    go_wp2
    go_meet
    case rel => exact ⟨d, e, -1, eZ, eZ, eZ, HJ, S, O, D, K5⟩
  rw [if_neg b2] at H
  have b2b : ((y) == 2) = false := beq_eq_false_iff_ne.mpr b2
  have b2c : ((y) != 2) = true := bne_iff_ne.mpr b2
  clear b2
  have HJ := Aside0.mk H
  clear H
  go_wp2
  go_meet
  case rel => exact ⟨d, e, f, eZ, eZ, eZ, HJ, S, O, D, K5⟩
 case rest =>
  clear HJ S O D K5
  obtain ⟨a, b, f_, rfl, rfl, rfl, HJ, S, O, D, K5⟩ := hcut
  have H := HJ.out
  clear HJ
  simp only [Option.some.injEq, Prod.mk.injEq] at H
  obtain ⟨rfl, rfl, rfl, rfl, rfl, rfl, rfl, rfl, rfl, rfl, rfl, rfl, rfl, rfl, rfl⟩ := H
  replace HB := Aside0.mk (below_weaken HB.out HB.out.size S.out.2.1)
  have K4 := Aside0.mk S.out.2.2.2
  clear S
  obtain ⟨⟨hczs_0, hczs_1, hczs_2, hczs_3, hczs_4, hczs_5, hczs_6, hczs_7, hczs_8, hczs_9, hczs_10⟩, hfzs_0, hfzs_1, hfzs_2, hfzs_3, hfzs_4, hfzs_5, hfzs_6, hfzs_7, hfzs_8, hfzs_9, hfzs_10⟩ := cells11 K5.out
  obtain ⟨⟨hcza_0, hcza_1, hcza_2, hcza_3, hcza_4, hcza_5, hcza_6, hcza_7, hcza_8, hcza_9, hcza_10⟩, hfza_0, hfza_1, hfza_2, hfza_3, hfza_4, hfza_5, hfza_6, hfza_7, hfza_8, hfza_9, hfza_10⟩ := cells11 K4.out
  go_wp2_with (first | ((with_reducible refine gate_store (t := 25) (p := 2) rfl ?_); refine storeE (put11 wc g4 (.int .i64 x0) (.int .i64 x1) (.bool x2) (.bool x3) (.int .i64 x4) (.int .i64 x5) (.int .i64 x6) (.int .i64 x7) (.int .i64 x8) (.slice Ao ol.length co) (.slice Ad dl.length cd)) ?_; intro vS hw; replace O : Aside0 (Kd.R (Kd.int .u8) 5 vS w.heap.size (fun k_ => some k_ ≠ ((.slice Ad dl.length cd) : Value).ownBlock) (.slice Ao ol.length co) ol) := ⟨by rw [hw]; exact row_put O.out K4.out⟩; replace D : Aside0 (Kd.R (Kd.int .u8) 5 vS w.heap.size (fun k_ => some k_ ≠ ((.slice Ao ol.length co) : Value).ownBlock) (.slice Ad dl.length cd) dl) := ⟨by rw [hw]; exact row_put D.out K4.out⟩; replace HB : Aside0 (Below w.heap.size w vS) := ⟨by rw [hw]; exact below_put HB.out X4.out⟩; replace K4 : Aside0 (vS.heap[g4]? = some (.cells #[.int .i64 x0, .int .i64 x1, .bool x2, .bool x3, .int .i64 x4, .int .i64 x5, .int .i64 x6, .int .i64 x7, .int .i64 x8, .slice Ao ol.length co, .slice Ad dl.length cd] 25 (0, 0))) := ⟨by rw [hw]; exact set11 K4.out⟩; clear hw))
  refine bodyPost_ret (spec_DrawComplain.res5 rfl _ _ g4 25 #[.int .i64 x0, .int .i64 x1, .bool x2, .bool x3, .int .i64 x4, .int .i64 x5, .int .i64 x6, .int .i64 x7, .int .i64 x8, .slice Ao ol.length co, .slice Ad dl.length cd] (0, 0) _ rfl K4.out Try.underlying25 rfl (by kernel_rfl)) rfl ?_
  exact ⟨.slice Ao ol.length co, .slice Ad dl.length cd, eZ, O.out, D.out, HB.out⟩


/-! ### spec_l01Copy: function 37 -/
def spec_l01Copy.l0 : Nat → List Int → List Int → Int → Option (List Int)
  | 0, _, _, _ => none
  | k + 1, x0, x3, x4 => if x4 < (x0.length : Int) then (if 0 ≤ x4 then (if x3.length < 140737488355328 then (spec_l01Copy.l0 k x0 (x3 ++ [rd x0 x4]) (wrap64 (x4 + 1))) else (none)) else (none)) else (some x3)
def spec_l01Copy.f (k : Nat) (l0 : List Int) : Option (List Int) := spec_l01Copy.l0 k l0 (([] : List Int)) 0
theorem spec_l01Copy.mono_l : ∀ k, (∀ y0 y1 y2, LeO (spec_l01Copy.l0 k y0 y1 y2) (spec_l01Copy.l0 (k + 1) y0 y1 y2))
  | 0 => fun _ _ _ r h => by simp [spec_l01Copy.l0] at h
  | k + 1 => by
    have ih0 := spec_l01Copy.mono_l k
    · intro y0 y1 y2
      unfold spec_l01Copy.l0
      repeat' first
      | (with_reducible exact ih0 _ _ _)
      | (with_reducible exact LeO.refl _)
      | (with_reducible exact LeO.none _)
      | (with_reducible refine LeO.ite ?_ ?_)
      | (with_reducible refine LeO.bind ?_ (fun _ => ?_))
      | exact ih0 _ _ _
      | exact LeO.none _
      | refine LeO.ite ?_ ?_
      | refine LeO.bind ?_ (fun _ => ?_)
theorem spec_l01Copy.mono : ∀ a0 k, LeO (spec_l01Copy.f k a0) (spec_l01Copy.f (k + 1) a0) := by
 intro a0 k
 have ih0 := spec_l01Copy.mono_l k
 unfold spec_l01Copy.f
 repeat' first
     | (with_reducible exact ih0 _ _ _)
     | (with_reducible exact LeO.refl _)
     | (with_reducible exact LeO.none _)
     | (with_reducible refine LeO.ite ?_ ?_)
     | (with_reducible refine LeO.bind ?_ (fun _ => ?_))
     | exact ih0 _ _ _
     | exact LeO.none _
     | refine LeO.ite ?_ ?_
     | refine LeO.bind ?_ (fun _ => ?_)
set_option maxHeartbeats 60000000 in
set_option maxRecDepth 100000 in
theorem spec_l01Copy.calls (k : Nat) (A0 : Option Addr) (c0 : Nat) (l0 : List Int) (r : List Int) (w : World) (hr0 : Kd.C (Kd.int .u8) w A0 l0.length l0) (hc0 : l0.length ≤ c0) (h : spec_l01Copy.f k l0 = some r) :
 Calls Try.prog 37 #[.slice A0 l0.length c0] w fun e w' => ∃ v0_ : Value, e = .returned (v0_) ∧ Kd.R (Kd.int .u8) 5 w' w.heap.size (fun _ => True) v0_ r ∧ Below w.heap.size w w' := by
 have HR0 := Aside0.mk hr0
 have ar := Aside0.mk hc0
 clear hr0 hc0
 have HB := Aside0.mk (Below.refl w.heap.size w)
 have H : (spec_l01Copy.l0 k l0 (([] : List Int)) 0) = some r := h
 clear h
 obtain ⟨ai, ad⟩ : ∃ y_ : List Int, y_ = (([] : List Int)) := ⟨_, rfl⟩
 replace H : (spec_l01Copy.l0 k l0 ai 0) = some r := by first | (rw [ad]; with_reducible exact H) | (have H2_ := (Option.bind_some _ _).symm.trans H; rw [ad]; with_reducible exact H2_) | (have H2_ := (Option.bind_some _ _).symm.trans H; with_reducible exact H2_) | with_reducible exact H | (rw [ad]; exact H) | exact H
 have Ny240 := Aside0.mk ad
 clear ad
 have H' := Aside0.mk H
 clear H
 go_enter Try.func37, Try.ntmps37
 go_wp2_with (first | ((with_reducible refine gate_dst (N := 5) rfl ?_); refine Kd.R_lit (Kd.int .u8) _ 5 ?hg (N := 5) ?hd (xs := ([] : List Int)) (inner := []) (ok := fun _ => True) (okp := fun _ => True) ?hr ?hp (fun _ hk => hk) trivial (Below.refl _ _) (Nat.le_refl _) (by simp) ?_; (case hd => rfl); (case hg => rfl); (case hr => first | (go_simp; done) | (go_simp; rfl)); (case hp => exact (Reps.none _ _)); intro ap an ab hb hg_ hnew_; clear hg_ hnew_; (first | rw [← Ny240.out] at ab | (simp only [Int.reduceToNat] at ab; rw [← Ny240.out] at ab)); have n0_ := Aside0.mk (Kd.R_lower ab (below_size wB)); have n1_ := Aside0.mk (below_step wB hb); clear HB; have ak := n0_; have HB := n1_; clear n0_ n1_; clear hb ab))
 go_loopg [3, 4] k (fun kq v3 v4 w' => ∃ (af : List Int) (aa : Int), v4 = .int .i64 aa ∧ Aside0 (spec_l01Copy.l0 kq l0 af aa = some r) ∧ Aside0 (kq ≤ k) ∧ Aside0 (Kd.R (Kd.int .u8) 5 w' w.heap.size (fun _ => True) v3 af) ∧ Aside0 (Below w.heap.size w w'))
 case atStart => exact ⟨(ai), (0), eS, H', ⟨Nat.le_refl _⟩, ⟨Rh ak⟩, ⟨wB⟩⟩
 case round => (
 clear H'
 obtain ⟨af, aa, rfl, HA, am, HO_3, HB⟩ := hrel
 cases gk with
 | zero => exact absurd HA.out (by simp [spec_l01Copy.l0])
 | succ k1 => {
 have H := HA.out
 clear HA
 simp only [spec_l01Copy.l0] at H
 by_cases ac : aa < (l0.length : Int)
 {
 rw [if_pos ac] at H
 have c1003b0 : decide (aa < (l0.length : Int)) = true := decide_eq_true ac
 clear ac
 by_cases ag : 0 ≤ aa
 {
 rw [if_pos ag] at H
 have c1004b0 : decide (0 ≤ aa) = true := decide_eq_true ag
 clear ag
 by_cases ah : af.length < 140737488355328
 {
 rw [if_pos ah] at H
 have LMc1005 := Aside0.mk ah
 clear ah
 obtain ⟨aj, ae⟩ : ∃ y_ : List Int, y_ = (af ++ [rd l0 aa]) := ⟨_, rfl⟩
 replace H : (spec_l01Copy.l0 k1 l0 aj (wrap64 (aa + 1))) = some r := by first | (rw [ae]; with_reducible exact H) | (have H2_ := (Option.bind_some _ _).symm.trans H; rw [ae]; with_reducible exact H2_) | (have H2_ := (Option.bind_some _ _).symm.trans H; with_reducible exact H2_) | with_reducible exact H | (rw [ae]; exact H) | exact H
 have Ny244 := Aside0.mk ae
 clear ae
 have H' := Aside0.mk H
 clear H
 have p243 : 0 ≤ (aa : Int) := dT
 have q243 : aa < (l0.length : Int) := dT
 obtain ⟨ad243, e243, hx243_0⟩ := Kd.at_int HR0.out aa p243 q243
 cases e243
 replace hx243_0 := (HB.out.cell (World.block_lt_of_cell? w _ hx243_0)).trans hx243_0
 replace p243 := eq_true p243
 replace q243 := eq_true q243
 go_wp2_with (first | ((with_reducible refine gate_builtin (b := .append) (xs := #[.tmp 12, .tmp 17]) rfl ?_); at_builtin; refine Kd.R_append (Kd.int .u8) (w0 := w) w.heap.size rfl (.tmp 12) (.tmp 17) 22 5 (.int .u8 0) 1 rfl Try.underlying22 info5 rfl (by decide) (by omega) u3 af (rd l0 aa) [.int .u8 (rd l0 aa)] (fun _ => True) (fun _ => False) rfl rfl ?aP (fun _ hk => hk.elim) ?aF ?aO ?aB ?aS ?aL ?_; (case aP => exact rfl); (case aB => exact wB); (case aF => exact (fun _ _ => trivial)); (case aO => exact (Rh HO_3)); (case aS => exact (below_size wB)); (case aL => have := LMc1005.out; omega); intro aq ao ho hb hg hat; rw [← Ny244.out] at ho; have n0_ := Aside0.mk (hb); have n1_ := Aside0.mk (ho); clear HB; clear HO_3; have HB := n0_; have al := n1_; clear n0_ n1_; clear ho hb hg hat))
 go_roundg k1
 case measure => have := am.out; omega
 case rel => exact ⟨(aj), (wrap64 (aa + 1)), eS, H', ⟨by have := am.out; omega⟩, ⟨Rh al⟩, ⟨wB⟩⟩
 }
 {
 rw [if_neg ah] at H
 exact absurd H (by simp)
 }
 }
 {
 rw [if_neg ag] at H
 exact absurd H (by simp)
 }
 }
 {
 rw [if_neg ac] at H
 have c1003b0 : decide (aa < (l0.length : Int)) = false := decide_eq_false ac
 clear ac
 obtain rfl := Option.some.inj H
 go_wp2
 go_ret
 exact ⟨_, eR, by (with_reducible repeat (first | apply Kd.R_alloc | apply Kd.R_drewN | apply Kd.R_drew)); exact HO_3.out, wB⟩
 }
 }
 )

/-! ### spec_l01Join: function 32 -/
def spec_l01Join.l0 : Nat → List Int → List Int → Int → Option (List Int)
  | 0, _, _, _ => none
  | k + 1, x1, x5, x6 => if x6 < (x1.length : Int) then (if 0 ≤ x6 then (if x5.length < 140737488355328 then (spec_l01Join.l0 k x1 (x5 ++ [rd x1 x6]) (wrap64 (x6 + 1))) else (none)) else (none)) else (some x5)
def spec_l01Join.f (k : Nat) (l0 : List Int) (l1 : List Int) : Option (List Int) := (spec_l01Copy.f k l0).bind fun t247 => (spec_l01Join.l0 k l1 t247 0)
theorem spec_l01Join.mono_l : ∀ k, (∀ y0 y1 y2, LeO (spec_l01Join.l0 k y0 y1 y2) (spec_l01Join.l0 (k + 1) y0 y1 y2))
  | 0 => fun _ _ _ r h => by simp [spec_l01Join.l0] at h
  | k + 1 => by
    have ih0 := spec_l01Join.mono_l k
    · intro y0 y1 y2
      unfold spec_l01Join.l0
      repeat' first
      | (with_reducible exact ih0 _ _ _)
      | (with_reducible exact spec_l01Copy.mono _ _)
      | (with_reducible exact LeO.refl _)
      | (with_reducible exact LeO.none _)
      | (with_reducible refine LeO.ite ?_ ?_)
      | (with_reducible refine LeO.bind ?_ (fun _ => ?_))
      | exact ih0 _ _ _
      | exact spec_l01Copy.mono _ _
      | exact LeO.none _
      | refine LeO.ite ?_ ?_
      | refine LeO.bind ?_ (fun _ => ?_)
theorem spec_l01Join.mono : ∀ a0 a1 k, LeO (spec_l01Join.f k a0 a1) (spec_l01Join.f (k + 1) a0 a1) := by
 intro a0 a1 k
 have ih0 := spec_l01Join.mono_l k
 unfold spec_l01Join.f
 repeat' first
     | (with_reducible exact ih0 _ _ _)
     | (with_reducible exact spec_l01Copy.mono _ _)
     | (with_reducible exact LeO.refl _)
     | (with_reducible exact LeO.none _)
     | (with_reducible refine LeO.ite ?_ ?_)
     | (with_reducible refine LeO.bind ?_ (fun _ => ?_))
     | exact ih0 _ _ _
     | exact spec_l01Copy.mono _ _
     | exact LeO.none _
     | refine LeO.ite ?_ ?_
     | refine LeO.bind ?_ (fun _ => ?_)
set_option maxHeartbeats 60000000 in
set_option maxRecDepth 100000 in
theorem spec_l01Join.calls (k : Nat) (A0 : Option Addr) (c0 : Nat) (l0 : List Int) (A1 : Option Addr) (c1 : Nat) (l1 : List Int) (r : List Int) (w : World) (hr0 : Kd.C (Kd.int .u8) w A0 l0.length l0) (hc0 : l0.length ≤ c0) (hr1 : Kd.C (Kd.int .u8) w A1 l1.length l1) (hc1 : l1.length ≤ c1) (h : spec_l01Join.f k l0 l1 = some r) :
 Calls Try.prog 32 #[.slice A0 l0.length c0, .slice A1 l1.length c1] w fun e w' => ∃ v0_ : Value, e = .returned (v0_) ∧ Kd.R (Kd.int .u8) 5 w' w.heap.size (fun _ => True) v0_ r ∧ Below w.heap.size w w' := by
 have HR0 := Aside0.mk hr0
 have am := Aside0.mk hc0
 clear hr0 hc0
 have HR1 := Aside0.mk hr1
 have ar := Aside0.mk hc1
 clear hr1 hc1
 have HB := Aside0.mk (Below.refl w.heap.size w)
 have H : ((spec_l01Copy.f k l0).bind fun ag => (spec_l01Join.l0 k l1 ag 0)) = some r := h
 clear h
 replace H := Option.bind_eq_some_iff.mp H
 obtain ⟨ag, A30, H⟩ := H
 have A3 := Aside0.mk A30
 clear A30
 have H' := Aside0.mk H
 clear H
 go_enter Try.func32, Try.ntmps32
 go_wp2_with (first | ((with_reducible refine gate_callee (f := 37) rfl ?_); refine gL (some 8) Try.func37 #[.slice A0 l0.length c0] ?_; (with_reducible refine (spec_l01Copy.calls k _ _ l0 ag _ ?side1 ?side2 A3.out).mono ?_); (case side1 => repeat (first | exact HR0.out | (with_reducible refine Kd.C_alloc ?_ _) | (with_reducible refine Kd.C_drewN ?_ _) | (with_reducible refine Kd.C_drew ?_))); (case side2 => exact am.out); rintro e an ⟨ap, rfl, ak, hb⟩; refine ⟨_, rfl, ?_⟩; have n0_ := Aside0.mk (Kd.R_lower ak (below_size wB)); have n1_ := Aside0.mk (below_step wB hb); clear HB; have ai := n0_; have HB := n1_; clear n0_ n1_; clear hb; (try clear ak)))
 go_loopg [5, 6] k (fun kq v5 v6 w' => ∃ (ad : List Int) (aa : Int), v6 = .int .i64 aa ∧ Aside0 (spec_l01Join.l0 kq l1 ad aa = some r) ∧ Aside0 (kq ≤ k) ∧ Aside0 (Kd.R (Kd.int .u8) 5 w' w.heap.size (fun _ => True) v5 ad) ∧ Aside0 (Below w.heap.size w w'))
 case atStart => exact ⟨(ag), (0), eS, H', ⟨Nat.le_refl _⟩, ⟨Rh ai⟩, ⟨wB⟩⟩
 case round => (
 clear H'
 try clear c0
 obtain ⟨ad, aa, rfl, HA, al, HO_5, HB⟩ := hrel
 cases gk with
 | zero => exact absurd HA.out (by simp [spec_l01Join.l0])
 | succ k1 => {
 have H := HA.out
 clear HA
 simp only [spec_l01Join.l0] at H
 by_cases ab : aa < (l1.length : Int)
 {
 rw [if_pos ab] at H
 have c1002b0 : decide (aa < (l1.length : Int)) = true := decide_eq_true ab
 clear ab
 by_cases ae : 0 ≤ aa
 {
 rw [if_pos ae] at H
 have c1003b0 : decide (0 ≤ aa) = true := decide_eq_true ae
 clear ae
 by_cases af : ad.length < 140737488355328
 {
 rw [if_pos af] at H
 have LMc1004 := Aside0.mk af
 clear af
 obtain ⟨ah, ac⟩ : ∃ y_ : List Int, y_ = (ad ++ [rd l1 aa]) := ⟨_, rfl⟩
 replace H : (spec_l01Join.l0 k1 l1 ah (wrap64 (aa + 1))) = some r := by first | (rw [ac]; with_reducible exact H) | (have H2_ := (Option.bind_some _ _).symm.trans H; rw [ac]; with_reducible exact H2_) | (have H2_ := (Option.bind_some _ _).symm.trans H; with_reducible exact H2_) | with_reducible exact H | (rw [ac]; exact H) | exact H
 have Ny251 := Aside0.mk ac
 clear ac
 have H' := Aside0.mk H
 clear H
 have p250 : 0 ≤ (aa : Int) := dT
 have q250 : aa < (l1.length : Int) := dT
 obtain ⟨ad250, e250, hx250_0⟩ := Kd.at_int HR1.out aa p250 q250
 cases e250
 replace hx250_0 := (HB.out.cell (World.block_lt_of_cell? w _ hx250_0)).trans hx250_0
 replace p250 := eq_true p250
 replace q250 := eq_true q250
 go_wp2_with (first | ((with_reducible refine gate_builtin (b := .append) (xs := #[.tmp 15, .tmp 20]) rfl ?_); at_builtin; refine Kd.R_append (Kd.int .u8) (w0 := w) w.heap.size rfl (.tmp 15) (.tmp 20) 22 5 (.int .u8 0) 1 rfl Try.underlying22 info5 rfl (by decide) (by omega) u5 ad (rd l1 aa) [.int .u8 (rd l1 aa)] (fun _ => True) (fun _ => False) rfl rfl ?aP (fun _ hk => hk.elim) ?aF ?aO ?aB ?aS ?aL ?_; (case aP => exact rfl); (case aB => exact wB); (case aF => exact (fun _ _ => trivial)); (case aO => exact (Rh HO_5)); (case aS => exact (below_size wB)); (case aL => have := LMc1004.out; omega); intro aq ao ho hb hg hat; rw [← Ny251.out] at ho; have n0_ := Aside0.mk (hb); have n1_ := Aside0.mk (ho); clear HB; clear HO_5; have HB := n0_; have aj := n1_; clear n0_ n1_; clear ho hb hg hat))
 go_roundg k1
 case measure => have := al.out; omega
 case rel => exact ⟨(ah), (wrap64 (aa + 1)), eS, H', ⟨by have := al.out; omega⟩, ⟨Rh aj⟩, ⟨wB⟩⟩
 }
 {
 rw [if_neg af] at H
 exact absurd H (by simp)
 }
 }
 {
 rw [if_neg ae] at H
 exact absurd H (by simp)
 }
 }
 {
 rw [if_neg ab] at H
 have c1002b0 : decide (aa < (l1.length : Int)) = false := decide_eq_false ab
 clear ab
 obtain rfl := Option.some.inj H
 go_wp2
 go_ret
 exact ⟨_, eR, by (with_reducible repeat (first | apply Kd.R_alloc | apply Kd.R_drewN | apply Kd.R_drew)); exact HO_5.out, wB⟩
 }
 }
 )

/-! ### spec_l01In: function 60 -/
def spec_l01In.f (a0 : Int) (a1 : Int) (a2 : Int) : Option (Bool) := if a0 ≥ a1 then (some (decide (a0 ≤ a2))) else (some false)
set_option maxHeartbeats 60000000 in
set_option maxRecDepth 100000 in
theorem spec_l01In.calls (a0 : Int) (a1 : Int) (a2 : Int) (r : Bool) (w : World) (h : spec_l01In.f a0 a1 a2 = some r) :
 Calls Try.prog 60 #[.int .i64 a0, .int .i64 a1, .int .i64 a2] w fun e w' => e = .returned (.bool r) ∧ Drawn0 w w' := by
 have H : (if a0 ≥ a1 then (some (decide (a0 ≤ a2))) else (some false)) = some r := h
 clear h
 by_cases c4 : a0 ≥ a1
 {
 rw [if_pos c4] at H
 have c4b0 : decide (a1 ≤ a0) = true := decide_eq_true c4
 clear c4
 obtain rfl := Option.some.inj H
 go_enter Try.func60, Try.ntmps60
 go_wp2
 go_ret
 exact ⟨by first | rfl | (simp; done) | (simp [*]; done), by repeat (first | exact Drawn0.refl _ | apply Drawn0.step)⟩
 }
 {
 rw [if_neg c4] at H
 have c4b0 : decide (a1 ≤ a0) = false := decide_eq_false c4
 clear c4
 obtain rfl := Option.some.inj H
 go_enter Try.func60, Try.ntmps60
 go_wp2
 go_ret
 exact ⟨by first | rfl | (simp; done) | (simp [*]; done), by repeat (first | exact Drawn0.refl _ | apply Drawn0.step)⟩
 }

/-! ### spec_l02AddrOK: function 48 -/
def spec_l02AddrOK.f (a0 : Int) : Option (Bool) := (spec_l01In.f a0 0 4294967295).bind fun t254 => (some t254)
set_option maxHeartbeats 60000000 in
set_option maxRecDepth 100000 in
theorem spec_l02AddrOK.calls (a0 : Int) (r : Bool) (w : World) (h : spec_l02AddrOK.f a0 = some r) :
 Calls Try.prog 48 #[.int .i64 a0] w fun e w' => e = .returned (.bool r) ∧ Drawn0 w w' := by
 have H : ((spec_l01In.f a0 0 4294967295).bind fun aa => (some aa)) = some r := h
 clear h
 replace H := Option.bind_eq_some_iff.mp H
 obtain ⟨aa, A20, H⟩ := H
 have A2 := Aside0.mk A20
 clear A20
 obtain rfl := Option.some.inj H
 go_enter Try.func48, Try.ntmps48
 go_wp2_with (first | ((with_reducible refine gate_callee (f := 60) rfl ?_); refine gL (some 4) Try.func60 #[.int .i64 a0, .int .i64 0, .int .i64 4294967295] ?_; (with_reducible refine (spec_l01In.calls a0 0 4294967295 aa _ A2.out).mono ?_); rintro e w' ⟨rfl, ⟨nd, rfl⟩⟩; refine ⟨_, rfl, ?_⟩))
 go_ret
 exact ⟨by first | rfl | (simp; done) | (simp [*]; done), by repeat (first | exact Drawn0.refl _ | apply Drawn0.step)⟩

/-! ### spec_l05OK: function 65 -/
def spec_l05OK.f (ac : Int) (ad : Int) (aq : Bool) (ar : Bool) (aa : Int) (ae : Int) (af : Int) (ag : Int) (ah : Int) (ab : List Int) (ap : List Int) : Option (Bool) := (spec_l01In.f ac 0 255).bind fun ai => (if ai = true then ((spec_l01In.f ae 0 255).bind fun aj => (if aj = true then ((spec_l01In.f af 0 255).bind fun ak => (if ak = true then ((spec_l01In.f ad 0 65535).bind fun al => (if al = true then ((spec_l01In.f aa 0 65528).bind fun am => (if am = true then (if (Int.tmod aa 8) = 0 then ((spec_l02AddrOK.f ag).bind fun an => (if an = true then ((spec_l02AddrOK.f ah).bind fun ao => (if ao = true then (if (ab.length : Int) ≤ 40 then (some (((ab.length : Int) % 4) == 0)) else (some false)) else (some false))) else (some false))) else (some false)) else (some false))) else (some false))) else (some false))) else (some false))) else (some false))
set_option maxHeartbeats 60000000 in
set_option maxRecDepth 100000 in
theorem spec_l05OK.calls (am : Int) (ai : Int) (au : Bool) (av : Bool) (ab : Int) (an : Int) (ak : Int) (ag : Int) (ae : Int) (A0_9 : Option Addr) (aw : Nat) (aa : List Int) (A0_10 : Option Addr) (ar : Nat) (aj : List Int) (r : Bool) (w : World) (hr0_9 : Kd.C (Kd.int .u8) w A0_9 aa.length aa) (hc0_9 : aa.length ≤ aw) (hr0_10 : Kd.C (Kd.int .u8) w A0_10 aj.length aj) (hc0_10 : aj.length ≤ ar) (h : spec_l05OK.f am ai au av ab an ak ag ae aa aj = some r) :
 Calls Try.prog 65 #[.agg #[.int .i64 am, .int .i64 ai, .bool au, .bool av, .int .i64 ab, .int .i64 an, .int .i64 ak, .int .i64 ag, .int .i64 ae, .slice A0_9 aa.length aw, .slice A0_10 aj.length ar]] w fun e w' => e = .returned (.bool r) ∧ Below w.heap.size w w' := by
 have hu25 := Try.underlying25
 have HR0_9 := Aside0.mk hr0_9
 have a0 := Aside0.mk hc0_9
 clear hr0_9 hc0_9
 have HR0_10 := Aside0.mk hr0_10
 have aZ := Aside0.mk hc0_10
 clear hr0_10 hc0_10
 have HB := Aside0.mk (Below.refl w.heap.size w)
 have H : ((spec_l01In.f am 0 255).bind fun ax => (if ax = true then ((spec_l01In.f an 0 255).bind fun ao => (if ao = true then ((spec_l01In.f ak 0 255).bind fun al => (if al = true then ((spec_l01In.f ai 0 65535).bind fun ah => (if ah = true then ((spec_l01In.f ab 0 65528).bind fun af => (if af = true then (if (Int.tmod ab 8) = 0 then ((spec_l02AddrOK.f ag).bind fun ad => (if ad = true then ((spec_l02AddrOK.f ae).bind fun ac => (if ac = true then (if (aa.length : Int) ≤ 40 then (some (((aa.length : Int) % 4) == 0)) else (some false)) else (some false))) else (some false))) else (some false)) else (some false))) else (some false))) else (some false))) else (some false))) else (some false))) = some r := h
 clear h
 replace H := Option.bind_eq_some_iff.mp H
 obtain ⟨ax, A20, H⟩ := H
 have A2 := Aside0.mk A20
 clear A20
 by_cases c3 : ax = true
 subst c3
 have H1 : ((spec_l01In.f an 0 255).bind fun ao => (if ao = true then ((spec_l01In.f ak 0 255).bind fun al => (if al = true then ((spec_l01In.f ai 0 65535).bind fun ah => (if ah = true then ((spec_l01In.f ab 0 65528).bind fun af => (if af = true then (if (Int.tmod ab 8) = 0 then ((spec_l02AddrOK.f ag).bind fun ad => (if ad = true then ((spec_l02AddrOK.f ae).bind fun ac => (if ac = true then (if (aa.length : Int) ≤ 40 then (some (((aa.length : Int) % 4) == 0)) else (some false)) else (some false))) else (some false))) else (some false)) else (some false))) else (some false))) else (some false))) else (some false))) = some r := by rw [if_pos rfl] at H; exact H
 clear H
 have H := H1
 clear H1
 replace H := Option.bind_eq_some_iff.mp H
 obtain ⟨ao, A40, H⟩ := H
 have A4 := Aside0.mk A40
 clear A40
 by_cases c5 : ao = true
 subst c5
 have H1 : ((spec_l01In.f ak 0 255).bind fun al => (if al = true then ((spec_l01In.f ai 0 65535).bind fun ah => (if ah = true then ((spec_l01In.f ab 0 65528).bind fun af => (if af = true then (if (Int.tmod ab 8) = 0 then ((spec_l02AddrOK.f ag).bind fun ad => (if ad = true then ((spec_l02AddrOK.f ae).bind fun ac => (if ac = true then (if (aa.length : Int) ≤ 40 then (some (((aa.length : Int) % 4) == 0)) else (some false)) else (some false))) else (some false))) else (some false)) else (some false))) else (some false))) else (some false))) = some r := by rw [if_pos rfl] at H; exact H
 clear H
 have H := H1
 clear H1
 replace H := Option.bind_eq_some_iff.mp H
 obtain ⟨al, A60, H⟩ := H
 have A6 := Aside0.mk A60
 clear A60
 by_cases c7 : al = true
 subst c7
 have H1 : ((spec_l01In.f ai 0 65535).bind fun ah => (if ah = true then ((spec_l01In.f ab 0 65528).bind fun af => (if af = true then (if (Int.tmod ab 8) = 0 then ((spec_l02AddrOK.f ag).bind fun ad => (if ad = true then ((spec_l02AddrOK.f ae).bind fun ac => (if ac = true then (if (aa.length : Int) ≤ 40 then (some (((aa.length : Int) % 4) == 0)) else (some false)) else (some false))) else (some false))) else (some false)) else (some false))) else (some false))) = some r := by rw [if_pos rfl] at H; exact H
 clear H
 have H := H1
 clear H1
 replace H := Option.bind_eq_some_iff.mp H
 obtain ⟨ah, A80, H⟩ := H
 have A8 := Aside0.mk A80
 clear A80
 by_cases c9 : ah = true
 subst c9
 have H1 : ((spec_l01In.f ab 0 65528).bind fun af => (if af = true then (if (Int.tmod ab 8) = 0 then ((spec_l02AddrOK.f ag).bind fun ad => (if ad = true then ((spec_l02AddrOK.f ae).bind fun ac => (if ac = true then (if (aa.length : Int) ≤ 40 then (some (((aa.length : Int) % 4) == 0)) else (some false)) else (some false))) else (some false))) else (some false)) else (some false))) = some r := by rw [if_pos rfl] at H; exact H
 clear H
 have H := H1
 clear H1
 replace H := Option.bind_eq_some_iff.mp H
 obtain ⟨af, A100, H⟩ := H
 have A10 := Aside0.mk A100
 clear A100
 by_cases ay : af = true
 subst ay
 have H1 : (if (Int.tmod ab 8) = 0 then ((spec_l02AddrOK.f ag).bind fun ad => (if ad = true then ((spec_l02AddrOK.f ae).bind fun ac => (if ac = true then (if (aa.length : Int) ≤ 40 then (some (((aa.length : Int) % 4) == 0)) else (some false)) else (some false))) else (some false))) else (some false)) = some r := by rw [if_pos rfl] at H; exact H
 clear H
 have H := H1
 clear H1
 by_cases ap : (Int.tmod ab 8) = 0
 rw [if_pos ap] at H
 have c12b0 : ((Int.tmod ab 8) == 0) = true := beq_iff_eq.mpr ap
 have c12b1 : ((Int.tmod ab 8) != 0) = false := bne_eq_false_iff_eq.mpr ap
 clear ap
 replace H := Option.bind_eq_some_iff.mp H
 obtain ⟨ad, A130, H⟩ := H
 have A13 := Aside0.mk A130
 clear A130
 by_cases az : ad = true
 subst az
 have H1 : ((spec_l02AddrOK.f ae).bind fun ac => (if ac = true then (if (aa.length : Int) ≤ 40 then (some (((aa.length : Int) % 4) == 0)) else (some false)) else (some false))) = some r := by rw [if_pos rfl] at H; exact H
 clear H
 have H := H1
 clear H1
 replace H := Option.bind_eq_some_iff.mp H
 obtain ⟨ac, A150, H⟩ := H
 have A15 := Aside0.mk A150
 clear A150
 by_cases aA : ac = true
 subst aA
 have H1 : (if (aa.length : Int) ≤ 40 then (some (((aa.length : Int) % 4) == 0)) else (some false)) = some r := by rw [if_pos rfl] at H; exact H
 clear H
 have H := H1
 clear H1
 by_cases aq : (aa.length : Int) ≤ 40
 rw [if_pos aq] at H
 have c17b0 : decide ((aa.length : Int) ≤ 40) = true := decide_eq_true aq
 have c17b1 : decide (aa.length ≤ 40) = true := decide_eq_true (by omega)
 clear aq
 obtain rfl := Option.some.inj H
 rotate_left
 rw [if_neg aq] at H
 have c17b0 : decide ((aa.length : Int) ≤ 40) = false := decide_eq_false aq
 have c17b1 : decide (aa.length ≤ 40) = false := decide_eq_false (by omega)
 clear aq
 obtain rfl := Option.some.inj H
 rotate_left
 replace aA := Bool.eq_false_iff.mpr aA
 subst aA
 have H1 : (some false) = some r := by rw [if_neg (show ¬ (false = true) by decide)] at H; exact H
 clear H
 have H := H1
 clear H1
 obtain rfl := Option.some.inj H
 rotate_left
 replace az := Bool.eq_false_iff.mpr az
 subst az
 have H1 : (some false) = some r := by rw [if_neg (show ¬ (false = true) by decide)] at H; exact H
 clear H
 have H := H1
 clear H1
 obtain rfl := Option.some.inj H
 rotate_left
 rw [if_neg ap] at H
 have c12b0 : ((Int.tmod ab 8) == 0) = false := beq_eq_false_iff_ne.mpr ap
 have c12b1 : ((Int.tmod ab 8) != 0) = true := bne_iff_ne.mpr ap
 obtain rfl := Option.some.inj H
 rotate_left
 replace ay := Bool.eq_false_iff.mpr ay
 subst ay
 have H1 : (some false) = some r := by rw [if_neg (show ¬ (false = true) by decide)] at H; exact H
 clear H
 have H := H1
 clear H1
 obtain rfl := Option.some.inj H
 rotate_left
 replace c9 := Bool.eq_false_iff.mpr c9
 subst c9
 have H1 : (some false) = some r := by rw [if_neg (show ¬ (false = true) by decide)] at H; exact H
 clear H
 have H := H1
 clear H1
 obtain rfl := Option.some.inj H
 rotate_left
 replace c7 := Bool.eq_false_iff.mpr c7
 subst c7
 have H1 : (some false) = some r := by rw [if_neg (show ¬ (false = true) by decide)] at H; exact H
 clear H
 have H := H1
 clear H1
 obtain rfl := Option.some.inj H
 rotate_left
 replace c5 := Bool.eq_false_iff.mpr c5
 subst c5
 have H1 : (some false) = some r := by rw [if_neg (show ¬ (false = true) by decide)] at H; exact H
 clear H
 have H := H1
 clear H1
 obtain rfl := Option.some.inj H
 rotate_left
 replace c3 := Bool.eq_false_iff.mpr c3
 subst c3
 have H1 : (some false) = some r := by rw [if_neg (show ¬ (false = true) by decide)] at H; exact H
 clear H
 have H := H1
 clear H1
 obtain rfl := Option.some.inj H
 rotate_left
 all_goals (
 go_enter Try.func65, Try.ntmps65
 go_wp2_with (first | ((with_reducible refine gate_dst (N := 1) rfl ?_); (try (refine gate_guard (by rfl) ?_; dsimp only)); refine boxE 1 #[.int .i64 am, .int .i64 ai, .bool au, .bool av, .int .i64 ab, .int .i64 an, .int .i64 ak, .int .i64 ag, .int .i64 ae, .slice A0_9 aa.length aw, .slice A0_10 aj.length ar] 25 ?_; intro aB hg a1 hbox hb; have n0_ := Aside0.mk (below_step wB hb); have n1_ := Aside0.mk (hbox); have n2_ := Aside0.mk ((by rw [hg]; exact (below_size wB) : w.heap.size ≤ aB)); have n3_ := Aside0.mk ((by rw [hg]; exact (below_size wB) : w.heap.size ≤ aB)); clear HB; have HB := n0_; have aC := n1_; have a2 := n2_; have a3 := n3_; clear n0_ n1_ n2_ n3_; clear hb hbox hg; obtain ⟨⟨aF, aG, aH, aI, aJ, aK, aL, aM, aN, aO, aD⟩, aP, aQ, aR, aS, aT, aU, aV, aW, aX, aY, aE⟩ := cells11 aC.out) | ((with_reducible refine gate_callee (f := 60) rfl ?_); refine gL (some 5) Try.func60 #[.int .i64 am, .int .i64 0, .int .i64 255] ?_; (with_reducible refine (spec_l01In.calls am 0 255 _ _ A2.out).mono ?_); rintro e w' ⟨rfl, ⟨nd, rfl⟩⟩; refine ⟨_, rfl, ?_⟩) | (go_at_call 60; (with_reducible refine (spec_l01In.calls an 0 255 _ _ A4.out).mono ?_); rintro e w' ⟨rfl, ⟨nd, rfl⟩⟩) | (go_at_call 60; (with_reducible refine (spec_l01In.calls ak 0 255 _ _ A6.out).mono ?_); rintro e w' ⟨rfl, ⟨nd, rfl⟩⟩) | (go_at_call 60; (with_reducible refine (spec_l01In.calls ai 0 65535 _ _ A8.out).mono ?_); rintro e w' ⟨rfl, ⟨nd, rfl⟩⟩) | (go_at_call 60; (with_reducible refine (spec_l01In.calls ab 0 65528 _ _ A10.out).mono ?_); rintro e w' ⟨rfl, ⟨nd, rfl⟩⟩) | (go_at_call 48; (with_reducible refine (spec_l02AddrOK.calls ag _ _ A13.out).mono ?_); rintro e w' ⟨rfl, ⟨nd, rfl⟩⟩) | (go_at_call 48; (with_reducible refine (spec_l02AddrOK.calls ae _ _ A15.out).mono ?_); rintro e w' ⟨rfl, ⟨nd, rfl⟩⟩))
 go_ret
 exact ⟨eR, wB⟩
 )

/-! ### spec_l01Sum: function 68 -/
def spec_l01Sum.l0 : Nat → List Int → Int → Int → Option (Int)
  | 0, _, _, _ => none
  | k + 1, x0, x3, x4 => if x4 < (x0.length : Int) then (if 0 ≤ x4 then (if (wrap64 (x4 + 1)) < (x0.length : Int) then (if 0 ≤ (wrap64 (x4 + 1)) then (if (wrap64 (x3 + (wrap64 ((wrap64 ((wrap64 (rd x0 x4)) * 256)) + (wrap64 (rd x0 (wrap64 (x4 + 1)))))))) > 65535 then (spec_l01Sum.l0 k x0 (wrap64 ((wrap64 (x3 + (wrap64 ((wrap64 ((wrap64 (rd x0 x4)) * 256)) + (wrap64 (rd x0 (wrap64 (x4 + 1)))))))) - 65535)) (wrap64 (x4 + 2))) else (spec_l01Sum.l0 k x0 (wrap64 (x3 + (wrap64 ((wrap64 ((wrap64 (rd x0 x4)) * 256)) + (wrap64 (rd x0 (wrap64 (x4 + 1)))))))) (wrap64 (x4 + 2)))) else (none)) else (if (wrap64 (x3 + (wrap64 ((wrap64 (rd x0 x4)) * 256)))) > 65535 then (spec_l01Sum.l0 k x0 (wrap64 ((wrap64 (x3 + (wrap64 ((wrap64 (rd x0 x4)) * 256)))) - 65535)) (wrap64 (x4 + 2))) else (spec_l01Sum.l0 k x0 (wrap64 (x3 + (wrap64 ((wrap64 (rd x0 x4)) * 256)))) (wrap64 (x4 + 2))))) else (none)) else (some x3)
def spec_l01Sum.f (k : Nat) (l0 : List Int) : Option (Int) := spec_l01Sum.l0 k l0 0 0
theorem spec_l01Sum.mono_l : ∀ k, (∀ y0 y1 y2, LeO (spec_l01Sum.l0 k y0 y1 y2) (spec_l01Sum.l0 (k + 1) y0 y1 y2))
  | 0 => fun _ _ _ r h => by simp [spec_l01Sum.l0] at h
  | k + 1 => by
    have ih0 := spec_l01Sum.mono_l k
    · intro y0 y1 y2
      unfold spec_l01Sum.l0
      repeat' first
      | (with_reducible exact ih0 _ _ _)
      | (with_reducible exact LeO.refl _)
      | (with_reducible exact LeO.none _)
      | (with_reducible refine LeO.ite ?_ ?_)
      | (with_reducible refine LeO.bind ?_ (fun _ => ?_))
      | exact ih0 _ _ _
      | exact LeO.none _
      | refine LeO.ite ?_ ?_
      | refine LeO.bind ?_ (fun _ => ?_)
theorem spec_l01Sum.mono : ∀ a0 k, LeO (spec_l01Sum.f k a0) (spec_l01Sum.f (k + 1) a0) := by
 intro a0 k
 have ih0 := spec_l01Sum.mono_l k
 unfold spec_l01Sum.f
 repeat' first
     | (with_reducible exact ih0 _ _ _)
     | (with_reducible exact LeO.refl _)
     | (with_reducible exact LeO.none _)
     | (with_reducible refine LeO.ite ?_ ?_)
     | (with_reducible refine LeO.bind ?_ (fun _ => ?_))
     | exact ih0 _ _ _
     | exact LeO.none _
     | refine LeO.ite ?_ ?_
     | refine LeO.bind ?_ (fun _ => ?_)
set_option maxHeartbeats 60000000 in
set_option maxRecDepth 100000 in
theorem spec_l01Sum.calls (k : Nat) (A0 : Option Addr) (c0 : Nat) (l0 : List Int) (r : Int) (w : World) (hr0 : Kd.C (Kd.int .u8) w A0 l0.length l0) (hc0 : l0.length ≤ c0) (h : spec_l01Sum.f k l0 = some r) :
 Calls Try.prog 68 #[.slice A0 l0.length c0] w fun e w' => e = .returned (.int .i64 r) ∧ Drawn0 w w' := by
 have HR0 := Aside0.mk hr0
 have ak := Aside0.mk hc0
 clear hr0 hc0
 have H : (spec_l01Sum.l0 k l0 0 0) = some r := h
 clear h
 have H' := Aside0.mk H
 clear H
 go_enter Try.func68, Try.ntmps68
 go_wp2
 go_loopg [3, 4] k (fun kq v3 v4 w' => ∃ (ac : Int) (aa : Int), v3 = .int .i64 ac ∧ v4 = .int .i64 aa ∧ Aside0 (spec_l01Sum.l0 kq l0 ac aa = some r) ∧ Aside0 (kq ≤ k) ∧ Drawn0 w w')
 case atStart => exact ⟨(0), (0), eS, eS, H', ⟨Nat.le_refl _⟩, by repeat (first | exact Drawn0.refl _ | apply Drawn0.step)⟩
 case round => (
 clear H'
 obtain ⟨ac, aa, rfl, rfl, HA, aj, ⟨m1, rfl⟩⟩ := hrel
 cases gk with
 | zero => exact absurd HA.out (by simp [spec_l01Sum.l0])
 | succ k1 => {
 have H := HA.out
 clear HA
 simp only [spec_l01Sum.l0] at H
 by_cases ad : aa < (l0.length : Int)
 rw [if_pos ad] at H
 have c1001b0 : decide (aa < (l0.length : Int)) = true := decide_eq_true ad
 clear ad
 by_cases ah : 0 ≤ aa
 rw [if_pos ah] at H
 have c1002b0 : decide (0 ≤ aa) = true := decide_eq_true ah
 clear ah
 by_cases ae : (wrap64 (aa + 1)) < (l0.length : Int)
 rw [if_pos ae] at H
 have c1003b0 : decide ((wrap64 (aa + 1)) < (l0.length : Int)) = true := decide_eq_true ae
 clear ae
 obtain ⟨ab, hji1004⟩ : ∃ j_ : Int, (wrap64 (aa + 1)) = j_ := ⟨_, rfl⟩
 replace H : (if 0 ≤ (ab) then (if (wrap64 (ac + (wrap64 ((wrap64 ((wrap64 (rd l0 aa)) * 256)) + (wrap64 (rd l0 (ab))))))) > 65535 then (spec_l01Sum.l0 k1 l0 (wrap64 ((wrap64 (ac + (wrap64 ((wrap64 ((wrap64 (rd l0 aa)) * 256)) + (wrap64 (rd l0 (ab))))))) - 65535)) (wrap64 (aa + 2))) else (spec_l01Sum.l0 k1 l0 (wrap64 (ac + (wrap64 ((wrap64 ((wrap64 (rd l0 aa)) * 256)) + (wrap64 (rd l0 (ab))))))) (wrap64 (aa + 2)))) else (none)) = some r := by first | (rw [hji1004] at H; exact H) | (simp only [hji1004] at H ⊢; exact H)
 (try rw [hji1004] at c1003b0)
 have hji1004w : (IntKind.i64.wrap (aa + 1)) = ab := (i64_w _).trans hji1004
 by_cases ai : 0 ≤ (ab)
 rw [if_pos ai] at H
 have c1005b0 : decide (0 ≤ (ab)) = true := decide_eq_true ai
 clear ai
 by_cases af : (wrap64 (ac + (wrap64 ((wrap64 ((wrap64 (rd l0 aa)) * 256)) + (wrap64 (rd l0 (ab))))))) > 65535
 rw [if_pos af] at H
 have c1006b0 : decide (65535 < (wrap64 (ac + (wrap64 ((wrap64 ((wrap64 (rd l0 aa)) * 256)) + (wrap64 (rd l0 (ab)))))))) = true := decide_eq_true af
 clear af
 have H' := Aside0.mk H
 clear H
 rotate_left
 rw [if_neg af] at H
 have c1006b0 : decide (65535 < (wrap64 (ac + (wrap64 ((wrap64 ((wrap64 (rd l0 aa)) * 256)) + (wrap64 (rd l0 (ab)))))))) = false := decide_eq_false af
 clear af
 have H' := Aside0.mk H
 clear H
 rotate_left
 rw [if_neg ai] at H
 exact absurd H (by simp)
 rw [if_neg ae] at H
 have c1003b0 : decide ((wrap64 (aa + 1)) < (l0.length : Int)) = false := decide_eq_false ae
 clear ae
 by_cases ag : (wrap64 (ac + (wrap64 ((wrap64 (rd l0 aa)) * 256)))) > 65535
 rw [if_pos ag] at H
 have c1007b0 : decide (65535 < (wrap64 (ac + (wrap64 ((wrap64 (rd l0 aa)) * 256))))) = true := decide_eq_true ag
 clear ag
 have H' := Aside0.mk H
 clear H
 rotate_left
 rw [if_neg ag] at H
 have c1007b0 : decide (65535 < (wrap64 (ac + (wrap64 ((wrap64 (rd l0 aa)) * 256))))) = false := decide_eq_false ag
 clear ag
 have H' := Aside0.mk H
 clear H
 rotate_left
 rw [if_neg ah] at H
 exact absurd H (by simp)
 rw [if_neg ad] at H
 have c1001b0 : decide (aa < (l0.length : Int)) = false := decide_eq_false ad
 clear ad
 obtain rfl := Option.some.inj H
 rotate_left
 iterate 4 (
 focus (
 have p263 : 0 ≤ (aa : Int) := dT
 have q263 : aa < (l0.length : Int) := dT
 obtain ⟨ad263, e263, hx263_0⟩ := Kd.at_int HR0.out aa p263 q263
 cases e263
 replace p263 := eq_true p263
 replace q263 := eq_true q263
 )
 rotate_left
 )
 rotate_right 4
 iterate 2 (
 focus (
 have p264 : 0 ≤ ((ab) : Int) := dT
 have q264 : (ab) < (l0.length : Int) := dT
 obtain ⟨ad264, e264, hx264_0⟩ := Kd.at_int HR0.out (ab) p264 q264
 obtain rfl : ad263 = ad264 := (by injection e264)
 replace p264 := eq_true p264
 replace q264 := eq_true q264
 go_wp2
 go_roundg k1
 case measure => have := aj.out; omega
 )
 rotate_left
 )
 rotate_right 2
 {
 case rel => exact ⟨(wrap64 ((wrap64 (ac + (wrap64 ((wrap64 ((wrap64 (rd l0 aa)) * 256)) + (wrap64 (rd l0 (ab))))))) - 65535)), (wrap64 (aa + 2)), (by first | rfl | (simp; done) | (simp only [← hji1004] <;> (first | rfl | (simp; done) | (simp [i64_w]; done) | simp)) | (simp [*]; done)), eS, H', ⟨by have := aj.out; omega⟩, by repeat (first | exact Drawn0.refl _ | apply Drawn0.step)⟩
 }
 {
 case rel => exact ⟨(wrap64 (ac + (wrap64 ((wrap64 ((wrap64 (rd l0 aa)) * 256)) + (wrap64 (rd l0 (ab))))))), (wrap64 (aa + 2)), (by first | rfl | (simp; done) | (simp only [← hji1004] <;> (first | rfl | (simp; done) | (simp [i64_w]; done) | simp)) | (simp [*]; done)), eS, H', ⟨by have := aj.out; omega⟩, by repeat (first | exact Drawn0.refl _ | apply Drawn0.step)⟩
 }
 iterate 2 (
 focus (
 go_wp2
 go_roundg k1
 case measure => have := aj.out; omega
 )
 rotate_left
 )
 rotate_right 2
 {
 case rel => exact ⟨(wrap64 ((wrap64 (ac + (wrap64 ((wrap64 (rd l0 aa)) * 256)))) - 65535)), (wrap64 (aa + 2)), eS, eS, H', ⟨by have := aj.out; omega⟩, by repeat (first | exact Drawn0.refl _ | apply Drawn0.step)⟩
 }
 {
 case rel => exact ⟨(wrap64 (ac + (wrap64 ((wrap64 (rd l0 aa)) * 256)))), (wrap64 (aa + 2)), eS, eS, H', ⟨by have := aj.out; omega⟩, by repeat (first | exact Drawn0.refl _ | apply Drawn0.step)⟩
 }
 {
 go_wp2
 go_ret
 exact ⟨by first | rfl | (simp; done) | (simp [*]; done), by repeat (first | exact Drawn0.refl _ | apply Drawn0.step)⟩
 }
 }
 )

/-! ### spec_Checksum: function 34 -/
def spec_Checksum.f (k : Nat) (l0 : List Int) : Option (Int) := (spec_l01Sum.f k l0).bind fun t265 => (some (wrap64 (65535 - t265)))
theorem spec_Checksum.mono : ∀ a0 k, LeO (spec_Checksum.f k a0) (spec_Checksum.f (k + 1) a0) := by
 intro a0 k
 unfold spec_Checksum.f
 repeat' first
     | (with_reducible exact spec_l01Sum.mono _ _)
     | (with_reducible exact LeO.refl _)
     | (with_reducible exact LeO.none _)
     | (with_reducible refine LeO.ite ?_ ?_)
     | (with_reducible refine LeO.bind ?_ (fun _ => ?_))
     | exact spec_l01Sum.mono _ _
     | exact LeO.none _
     | refine LeO.ite ?_ ?_
     | refine LeO.bind ?_ (fun _ => ?_)
set_option maxHeartbeats 60000000 in
set_option maxRecDepth 100000 in
theorem spec_Checksum.calls (k : Nat) (A0 : Option Addr) (c0 : Nat) (l0 : List Int) (r : Int) (w : World) (hr0 : Kd.C (Kd.int .u8) w A0 l0.length l0) (hc0 : l0.length ≤ c0) (h : spec_Checksum.f k l0 = some r) :
 Calls Try.prog 34 #[.slice A0 l0.length c0] w fun e w' => e = .returned (.int .i64 r) ∧ Drawn0 w w' := by
 have HR0 := Aside0.mk hr0
 have ab := Aside0.mk hc0
 clear hr0 hc0
 have H : ((spec_l01Sum.f k l0).bind fun aa => (some (wrap64 (65535 - aa)))) = some r := h
 clear h
 replace H := Option.bind_eq_some_iff.mp H
 obtain ⟨aa, A20, H⟩ := H
 have A2 := Aside0.mk A20
 clear A20
 obtain rfl := Option.some.inj H
 go_enter Try.func34, Try.ntmps34
 go_wp2_with (first | ((with_reducible refine gate_callee (f := 68) rfl ?_); refine gL (some 4) Try.func68 #[.slice A0 l0.length c0] ?_; (with_reducible refine (spec_l01Sum.calls k _ _ l0 aa _ ?side1 ?side2 A2.out).mono ?_); (case side1 => repeat (first | exact HR0.out | (with_reducible refine Kd.C_alloc ?_ _) | (with_reducible refine Kd.C_drewN ?_ _) | (with_reducible refine Kd.C_drew ?_))); (case side2 => exact ab.out); rintro e w' ⟨rfl, ⟨nd, rfl⟩⟩; refine ⟨_, rfl, ?_⟩))
 go_ret
 exact ⟨by first | rfl | (simp; done) | (simp [*]; done), by repeat (first | exact Drawn0.refl _ | apply Drawn0.step)⟩

end Go.Proofs.Ytckhadlmhbhngaa.PFnComplain
