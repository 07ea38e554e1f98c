-- Written for this claim by a program of this session (wip/mkprint.py: the print, turned at a few places). Not trusted: Lean checks it.
import Derived.Test.YtckhadlmhbhngaaPFnComplainx0
import Derived.Test.YtckhadlmhbhngaaPFnComplainx9
import Derived.Test.YtckhadlmhbhngaaPFnComplainx10
namespace Go.Proofs.Ytckhadlmhbhngaa.PFnComplain
open Go.RowKit Go.Proofs.YtckhadlmhbhngaaW.PrintWords Go.Proofs.YtckhadlmhbhngaaW.PrintLast Go.Proofs.YtckhadlmhbhngaaW.PrintMore
attribute [local go_sem] max2_int min2_int max_two min_two max_three min_three max_four min_four   -- for this text's walks alone
set_option linter.unusedVariables false
set_option linter.unusedSimpArgs false

/-! ### spec_l05Head: function 66 -/
def spec_l05Head.f (k : Nat) (ae : Int) (af : Int) (ag : Bool) (ah : Bool) (ai : Int) (aj : Int) (ak : Int) (al : Int) (am : Int) (ab : List Int) (ad : List Int) : Option (List Int) := (spec_l03Put.f k (wrap64 ((wrap64 (20 + (ab.length : Int))) + (ad.length : Int))) 2).bind fun an => ((spec_l01Join.f k (([(wrap64 (64 + (wrap64 (Int.tdiv (wrap64 (20 + (ab.length : Int))) 4)))) % 256, (ae) % 256] : List Int)) an).bind fun ao => ((spec_l03Put.f k af 2).bind fun ap => ((spec_l01Join.f k ao ap).bind fun aq => ((spec_l05Flag.f ag 16384).bind fun ar => ((spec_l05Flag.f ah 8192).bind fun au => ((spec_l03Put.f k (wrap64 ((wrap64 (ar + au)) + (wrap64 (Int.tdiv ai 8)))) 2).bind fun av => ((spec_l01Join.f k aq av).bind fun aw => ((spec_l01Join.f k aw (([(aj) % 256, (ak) % 256, 0, 0] : List Int))).bind fun ax => ((spec_l03Put.f k al 4).bind fun ay => ((spec_l01Join.f k ax ay).bind fun az => ((spec_l03Put.f k am 4).bind fun aA => ((spec_l01Join.f k az aA).bind fun aB => ((spec_l01Join.f k aB ab).bind fun aa => ((spec_Checksum.f k aa).bind fun ac => (if 10 < (aa.length : Int) then (if 11 < (aa.length : Int) then (some ((aa.set (10 : Int).toNat ((ac / 256) % 256)).set (11 : Int).toNat ((ac) % 256))) else (none)) else (none))))))))))))))))
theorem spec_l05Head.mono : ∀ a0 a1 a2 a3 a4 a5 a6 a7 a8 a9 aa k, LeO (spec_l05Head.f k a0 a1 a2 a3 a4 a5 a6 a7 a8 a9 aa) (spec_l05Head.f (k + 1) a0 a1 a2 a3 a4 a5 a6 a7 a8 a9 aa) := by
 intro a0 a1 a2 a3 a4 a5 a6 a7 a8 a9 aa k
 unfold spec_l05Head.f
 repeat' first
     | (with_reducible exact spec_Checksum.mono _ _)
     | (with_reducible exact spec_l01Join.mono _ _ _)
     | (with_reducible exact spec_l03Put.mono _ _ _)
     | (with_reducible exact LeO.refl _)
     | (with_reducible exact LeO.none _)
     | (with_reducible refine LeO.ite ?_ ?_)
     | (with_reducible refine LeO.bind ?_ (fun _ => ?_))
     | exact spec_Checksum.mono _ _
     | exact spec_l01Join.mono _ _ _
     | exact spec_l03Put.mono _ _ _
     | exact LeO.none _
     | refine LeO.ite ?_ ?_
     | refine LeO.bind ?_ (fun _ => ?_)
def spec_l05Head.T5 : Bool × List (List Nat × List Nat) := (true, [([], []), ([], []), ([1], [1]), ([2], [2]), ([], []), ([4], [4]), ([5, 3], [5]), ([3, 6], [3, 6]), ([], []), ([8], [8]), ([9], [9]), ([7, 10], [7, 10]), ([11, 6], [11]), ([0, 12, 12], [0, 12]), ([13, 13, 0, 1, 2, 3, 4, 5, 6, 7, 8, 9, 10, 11, 12, 13], [0, 13])])
def spec_l05Head.B5 : List Nat := [0, 0, 2, 6, 0, 16, 62, 126, 0, 256, 768, 2046, 4094, 8191, 16383]
theorem spec_l05Head.tab5 : rtab .any (opsOf Try.f66 5) = spec_l05Head.T5 := by kernel_rfl
theorem spec_l05Head.bits5 : waitsOk spec_l05Head.T5.2 spec_l05Head.B5 = true := by kernel_rfl
def spec_l05Head.T7 : Bool × List (List Nat × List Nat) := (true, [([], []), ([], []), ([1], [1]), ([2], [2]), ([0, 3, 3], [0, 3]), ([], []), ([5], [5]), ([6, 4], [6]), ([4, 7, 7], [4, 7]), ([8, 8, 0, 1, 2, 3, 4, 5, 6, 7, 8], [0, 8])])
def spec_l05Head.B7 : List Nat := [0, 0, 2, 6, 15, 0, 32, 127, 255, 511]
theorem spec_l05Head.tab7 : rtab .any (opsOf Try.f66 7) = spec_l05Head.T7 := by kernel_rfl
theorem spec_l05Head.bits7 : waitsOk spec_l05Head.T7.2 spec_l05Head.B7 = true := by kernel_rfl
set_option maxHeartbeats 60000000 in
set_option maxRecDepth 100000 in
theorem spec_l05Head.calls (k : Nat) (az : Int) (aF : Int) (aG : Bool) (aH : Bool) (aI : Int) (ax : Int) (ay : Int) (aD : Int) (aE : Int) (A0_9 : Option Addr) (bo : Nat) (ao : List Int) (A0_10 : Option Addr) (aZ : Nat) (au : List Int) (r : List Int) (w : World) (hr0_9 : Kd.C (Kd.int .u8) w A0_9 ao.length ao) (hc0_9 : ao.length ≤ bo) (hr0_10 : Kd.C (Kd.int .u8) w A0_10 au.length au) (hc0_10 : au.length ≤ aZ) (h : spec_l05Head.f k az aF aG aH aI ax ay aD aE ao au = some r) :
 Calls Try.prog 66 #[.agg #[.int .i64 az, .int .i64 aF, .bool aG, .bool aH, .int .i64 aI, .int .i64 ax, .int .i64 ay, .int .i64 aD, .int .i64 aE, .slice A0_9 ao.length bo, .slice A0_10 au.length aZ]] w fun e w' => ∃ v0_ : Value, e = .returned (v0_) ∧ Kd.R (Kd.int .u8) 5 w' w.heap.size (fun _ => True) v0_ r ∧ Below w.heap.size w w' := by
 have hu25 := Try.underlying25
 have HR0_9 := Aside0.mk hr0_9
 have ci := Aside0.mk hc0_9
 clear hr0_9 hc0_9
 have HR0_10 := Aside0.mk hr0_10
 have ej := Aside0.mk hc0_10
 clear hr0_10 hc0_10
 have HB := Aside0.mk (Below.refl w.heap.size w)
 have H : ((spec_l03Put.f k (wrap64 ((wrap64 (20 + (ao.length : Int))) + (au.length : Int))) 2).bind fun aS => ((spec_l01Join.f k (([(wrap64 (64 + (wrap64 (Int.tdiv (wrap64 (20 + (ao.length : Int))) 4)))) % 256, (az) % 256] : List Int)) aS).bind fun aT => ((spec_l03Put.f k aF 2).bind fun aU => ((spec_l01Join.f k aT aU).bind fun aV => ((spec_l05Flag.f aG 16384).bind fun aW => ((spec_l05Flag.f aH 8192).bind fun aX => ((spec_l03Put.f k (wrap64 ((wrap64 (aW + aX)) + (wrap64 (Int.tdiv aI 8)))) 2).bind fun aY => ((spec_l01Join.f k aV aY).bind fun aO => ((spec_l01Join.f k aO (([(ax) % 256, (ay) % 256, 0, 0] : List Int))).bind fun aJ => ((spec_l03Put.f k aD 4).bind fun aK => ((spec_l01Join.f k aJ aK).bind fun aL => ((spec_l03Put.f k aE 4).bind fun aM => ((spec_l01Join.f k aL aM).bind fun aN => ((spec_l01Join.f k aN ao).bind fun al => ((spec_Checksum.f k al).bind fun aq => (if 10 < (al.length : Int) then (if 11 < (al.length : Int) then (some ((al.set (10 : Int).toNat ((aq / 256) % 256)).set (11 : Int).toNat ((aq) % 256))) else (none)) else (none))))))))))))))))) = some r := h
 clear h
 obtain ⟨bA, a0⟩ : ∃ y_ : List Int, y_ = (([(wrap64 (64 + (wrap64 (Int.tdiv (wrap64 (20 + (ao.length : Int))) 4)))) % 256, (az) % 256] : List Int)) := ⟨_, rfl⟩
 replace H : ((spec_l03Put.f k (wrap64 ((wrap64 (20 + (ao.length : Int))) + (au.length : Int))) 2).bind fun aS => ((spec_l01Join.f k bA aS).bind fun aT => ((spec_l03Put.f k aF 2).bind fun aU => ((spec_l01Join.f k aT aU).bind fun aV => ((spec_l05Flag.f aG 16384).bind fun aW => ((spec_l05Flag.f aH 8192).bind fun aX => ((spec_l03Put.f k (wrap64 ((wrap64 (aW + aX)) + (wrap64 (Int.tdiv aI 8)))) 2).bind fun aY => ((spec_l01Join.f k aV aY).bind fun aO => ((spec_l01Join.f k aO (([(ax) % 256, (ay) % 256, 0, 0] : List Int))).bind fun aJ => ((spec_l03Put.f k aD 4).bind fun aK => ((spec_l01Join.f k aJ aK).bind fun aL => ((spec_l03Put.f k aE 4).bind fun aM => ((spec_l01Join.f k aL aM).bind fun aN => ((spec_l01Join.f k aN ao).bind fun al => ((spec_Checksum.f k al).bind fun aq => (if 10 < (al.length : Int) then (if 11 < (al.length : Int) then (some ((al.set (10 : Int).toNat ((aq / 256) % 256)).set (11 : Int).toNat ((aq) % 256))) else (none)) else (none))))))))))))))))) = some r := by first | (rw [a0]; with_reducible exact H) | (have H2_ := (Option.bind_some _ _).symm.trans H; rw [a0]; with_reducible exact H2_) | (have H2_ := (Option.bind_some _ _).symm.trans H; with_reducible exact H2_) | with_reducible exact H | (rw [a0]; exact H) | exact H
 have Ny273 := Aside0.mk a0
 clear a0
 replace H := Option.bind_eq_some_iff.mp H
 obtain ⟨aS, A20, H⟩ := H
 have A2 := Aside0.mk A20
 clear A20
 replace H := Option.bind_eq_some_iff.mp H
 obtain ⟨aT, A30, H⟩ := H
 have A3 := Aside0.mk A30
 clear A30
 replace H := Option.bind_eq_some_iff.mp H
 obtain ⟨aU, A40, H⟩ := H
 have A4 := Aside0.mk A40
 clear A40
 replace H := Option.bind_eq_some_iff.mp H
 obtain ⟨aV, A50, H⟩ := H
 have A5 := Aside0.mk A50
 clear A50
 replace H := Option.bind_eq_some_iff.mp H
 obtain ⟨aW, A60, H⟩ := H
 have A6 := Aside0.mk A60
 clear A60
 replace H := Option.bind_eq_some_iff.mp H
 obtain ⟨aX, A70, H⟩ := H
 have A7 := Aside0.mk A70
 clear A70
 replace H := Option.bind_eq_some_iff.mp H
 obtain ⟨aY, A80, H⟩ := H
 have A8 := Aside0.mk A80
 clear A80
 replace H := Option.bind_eq_some_iff.mp H
 obtain ⟨aO, A90, H⟩ := H
 have A9 := Aside0.mk A90
 clear A90
 obtain ⟨bB, a1⟩ : ∃ y_ : List Int, y_ = (([(ax) % 256, (ay) % 256, 0, 0] : List Int)) := ⟨_, rfl⟩
 replace H : ((spec_l01Join.f k aO bB).bind fun aJ => ((spec_l03Put.f k aD 4).bind fun aK => ((spec_l01Join.f k aJ aK).bind fun aL => ((spec_l03Put.f k aE 4).bind fun aM => ((spec_l01Join.f k aL aM).bind fun aN => ((spec_l01Join.f k aN ao).bind fun al => ((spec_Checksum.f k al).bind fun aq => (if 10 < (al.length : Int) then (if 11 < (al.length : Int) then (some ((al.set (10 : Int).toNat ((aq / 256) % 256)).set (11 : Int).toNat ((aq) % 256))) else (none)) else (none))))))))) = some r := by first | (rw [a1]; with_reducible exact H) | (have H2_ := (Option.bind_some _ _).symm.trans H; rw [a1]; with_reducible exact H2_) | (have H2_ := (Option.bind_some _ _).symm.trans H; with_reducible exact H2_) | with_reducible exact H | (rw [a1]; exact H) | exact H
 have Ny296 := Aside0.mk a1
 clear a1
 replace H := Option.bind_eq_some_iff.mp H
 obtain ⟨aJ, A100, H⟩ := H
 have A10 := Aside0.mk A100
 clear A100
 replace H := Option.bind_eq_some_iff.mp H
 obtain ⟨aK, A110, H⟩ := H
 have A11 := Aside0.mk A110
 clear A110
 replace H := Option.bind_eq_some_iff.mp H
 obtain ⟨aL, A120, H⟩ := H
 have A12 := Aside0.mk A120
 clear A120
 replace H := Option.bind_eq_some_iff.mp H
 obtain ⟨aM, A130, H⟩ := H
 have A13 := Aside0.mk A130
 clear A130
 replace H := Option.bind_eq_some_iff.mp H
 obtain ⟨aN, A140, H⟩ := H
 have A14 := Aside0.mk A140
 clear A140
 replace H := Option.bind_eq_some_iff.mp H
 obtain ⟨al, A150, H⟩ := H
 have A15 := Aside0.mk A150
 clear A150
 replace H := Option.bind_eq_some_iff.mp H
 obtain ⟨aq, A160, H⟩ := H
 have A16 := Aside0.mk A160
 clear A160
 by_cases bD : 10 < (al.length : Int)
 {
 rw [if_pos bD] at H
 have c17b0 : decide (10 < (al.length : Int)) = true := decide_eq_true bD
 have c17b1 : decide (10 < al.length) = true := decide_eq_true (by omega)
 clear bD
 obtain ⟨bC, a2⟩ : ∃ y_ : List Int, y_ = (al.set (10 : Int).toNat ((aq / 256) % 256)) := ⟨_, rfl⟩
 replace H : (if 11 < (al.length : Int) then (some (bC.set (11 : Int).toNat ((aq) % 256))) else (none)) = some r := by first | (rw [a2]; with_reducible exact H) | (have H2_ := (Option.bind_some _ _).symm.trans H; rw [a2]; with_reducible exact H2_) | (have H2_ := (Option.bind_some _ _).symm.trans H; with_reducible exact H2_) | with_reducible exact H | (rw [a2]; exact H) | exact H
 have Ny318 := Aside0.mk a2
 clear a2
 by_cases bE : 11 < (al.length : Int)
 {
 rw [if_pos bE] at H
 have c19b0 : decide (11 < (al.length : Int)) = true := decide_eq_true bE
 have c19b1 : decide (11 < al.length) = true := decide_eq_true (by omega)
 clear bE
 obtain ⟨bG, a3⟩ : ∃ y_ : List Int, y_ = (bC.set (11 : Int).toNat ((aq) % 256)) := ⟨_, rfl⟩
 replace H : (some bG) = some r := by first | (rw [a3]; with_reducible exact H) | (have H2_ := (Option.bind_some _ _).symm.trans H; rw [a3]; with_reducible exact H2_) | (have H2_ := (Option.bind_some _ _).symm.trans H; with_reducible exact H2_) | with_reducible exact H | (rw [a3]; exact H) | exact H
 have Ny319 := Aside0.mk a3
 clear a3
 obtain rfl := Option.some.inj H
 go_enter Try.func66, Try.ntmps66
 try go_wp2_with (first | ((with_reducible refine gate_dst (N := 1) rfl ?_); refine boxE 1 #[.int .i64 az, .int .i64 aF, .bool aG, .bool aH, .int .i64 aI, .int .i64 ax, .int .i64 ay, .int .i64 aD, .int .i64 aE, .slice A0_9 ao.length bo, .slice A0_10 au.length aZ] 25 ?_; intro an hg ek hbox hb; have aa := Aside0.mk (hbox); have cj := Aside0.mk ((by rw [hg]; exact (below_size wB) : w.heap.size ≤ an)); replace HB := Aside0.mk (below_step wB hb); have el := cj; clear hb hbox hg; obtain ⟨⟨cw, cx, cy, cz, cA, cB, cC, cD, cE, cF, ck⟩, cG, cH, cI, cJ, cK, cL, cM, cN, cO, cP, cl⟩ := cells11 aa.out) | ((with_reducible refine gate_dst (N := 17) rfl ?_); refine Kd.R_lit (Kd.int .u8) _ 5 ?hg (N := 17) ?hd (xs := ([(wrap64 (64 + (wrap64 (Int.tdiv (wrap64 (20 + (ao.length : Int))) 4)))) % 256, (az) % 256] : List Int)) (inner := [.int .u8 ((wrap64 (64 + (wrap64 (Int.tdiv (wrap64 (20 + (ao.length : Int))) 4)))) % 256), .int .u8 ((az) % 256)]) (ok := fun _ => True) (okp := fun _ => True) ?hr ?hp (fun _ hk => hk) trivial (Below.refl _ _) (Nat.le_refl _) (by simp) ?_; (case hd => rfl); (case hg => rfl); (case hr => first | (go_simp; done) | (go_simp; rfl)); (case hp => exact (Reps.one (show Kd.M (Kd.int .u8) _ _ _ ((wrap64 (64 + (wrap64 (Int.tdiv (wrap64 (20 + (ao.length : Int))) 4)))) % 256) [.int .u8 ((wrap64 (64 + (wrap64 (Int.tdiv (wrap64 (20 + (ao.length : Int))) 4)))) % 256)] from rfl) (Reps.one (show Kd.M (Kd.int .u8) _ _ _ ((az) % 256) [.int .u8 ((az) % 256)] from rfl) (Reps.none _ _)))); intro ez em aP hb hg_ hnew_; clear hg_ hnew_; (first | rw [← Ny273.out] at aP | (simp only [Int.reduceToNat] at aP; rw [← Ny273.out] at aP)); have ac := Aside0.mk (Kd.R_lower aP (below_size wB)); replace aa := Aside0.mk (blk_below (Bh aa) hb); replace HB := Aside0.mk (below_step wB hb); clear hb aP; obtain ⟨⟨cQ, cR, cS, cT, cU, cV, cW, cX, cY, cZ, cm⟩, c0, c1, da, db, dc, dd, de, df, dg, dh, cn⟩ := cells11 aa.out) | ((with_reducible refine gate_callee (f := 73) rfl ?_); refine gL (some 24) Try.func73 #[.int .i64 (wrap64 ((wrap64 (20 + (ao.length : Int))) + (au.length : Int))), .int .i64 2] ?_; (with_reducible refine (spec_l03Put.calls k (wrap64 ((wrap64 (20 + (ao.length : Int))) + (au.length : Int))) 2 aS _ A2.out).mono ?_); rintro e en ⟨eA, rfl, ab, hb⟩; refine ⟨_, rfl, ?_⟩; have ad := Aside0.mk (Kd.R_lower (Kd.R_new' ab (Kd.R_lt (Rh ac))) (below_size wB)); replace ac := Aside0.mk (Kd.R_elder' (Rh ac) (Kd.R_base ab) hb); replace aa := Aside0.mk (blk_below (Bh aa) hb); replace HB := Aside0.mk (below_step wB hb); clear hb; (try clear ab); obtain ⟨bH, bI, bJ⟩ := Kd.R_slice ac.out; subst bJ; obtain ⟨bK, bL, bM⟩ := Kd.R_slice ad.out; subst bM) | ((with_reducible refine gate_callee (f := 32) rfl ?_); refine gL (some 25) Try.func32 #[.slice bH bA.length bI, .slice bK aS.length bL] ?_; (with_reducible refine (spec_l01Join.calls k _ _ bA _ _ aS aT _ ?side1 ?side2 ?side3 ?side4 A3.out).mono ?_); (case side1 => exact Ch ac); (case side2 => exact (Kd.R_reads' ac.out).2.1); (case side3 => exact Ch ad); (case side4 => exact (Kd.R_reads' ad.out).2.1); rintro e eo ⟨eB, rfl, ab, hb⟩; refine ⟨_, rfl, ?_⟩; have ae := Aside0.mk (Kd.R_lower (Kd.R_new' (Kd.R_new' ab (Kd.R_lt (Rh ac))) (Kd.R_lt (Rh ad))) (below_size wB)); replace ac := Aside0.mk (Kd.R_elder' (Rh ac) (Kd.R_base ab) hb); replace ad := Aside0.mk (Kd.R_elder' (Rh ad) (Kd.R_base ab) hb); replace aa := Aside0.mk (blk_below (Bh aa) hb); replace HB := Aside0.mk (below_step wB hb); clear hb; (try clear ab); obtain ⟨⟨di, dj, dk, dl, dm, dn, dp, dq, dr, dt, co⟩, du, dv, dw, dx, dy, dz, dA, dB, dC, dD, cp⟩ := cells11 aa.out) | ((with_reducible refine gate_callee (f := 73) rfl ?_); refine gL (some 29) Try.func73 #[.int .i64 aF, .int .i64 2] ?_; (with_reducible refine (spec_l03Put.calls k aF 2 aU _ A4.out).mono ?_); rintro e ep ⟨eC, rfl, ab, hb⟩; refine ⟨_, rfl, ?_⟩; have af := Aside0.mk (Kd.R_lower (Kd.R_new' (Kd.R_new' (Kd.R_new' ab (Kd.R_lt (Rh ac))) (Kd.R_lt (Rh ad))) (Kd.R_lt (Rh ae))) (below_size wB)); replace ac := Aside0.mk (Kd.R_elder' (Rh ac) (Kd.R_base ab) hb); replace ad := Aside0.mk (Kd.R_elder' (Rh ad) (Kd.R_base ab) hb); replace ae := Aside0.mk (Kd.R_elder' (Rh ae) (Kd.R_base ab) hb); replace aa := Aside0.mk (blk_below (Bh aa) hb); replace HB := Aside0.mk (below_step wB hb); clear hb; (try clear ab); obtain ⟨bN, bO, bP⟩ := Kd.R_slice ae.out; subst bP; obtain ⟨bQ, bR, bS⟩ := Kd.R_slice af.out; subst bS) | ((with_reducible refine gate_callee (f := 32) rfl ?_); refine gL (some 30) Try.func32 #[.slice bN aT.length bO, .slice bQ aU.length bR] ?_; (with_reducible refine (spec_l01Join.calls k _ _ aT _ _ aU aV _ ?side1 ?side2 ?side3 ?side4 A5.out).mono ?_); (case side1 => exact Ch ae); (case side2 => exact (Kd.R_reads' ae.out).2.1); (case side3 => exact Ch af); (case side4 => exact (Kd.R_reads' af.out).2.1); rintro e cq ⟨eD, rfl, ab, hb⟩; refine ⟨_, rfl, ?_⟩; have ag := Aside0.mk (Kd.R_lower (Kd.R_new' (Kd.R_new' (Kd.R_new' (Kd.R_new' ab (Kd.R_lt (Rh ac))) (Kd.R_lt (Rh ad))) (Kd.R_lt (Rh ae))) (Kd.R_lt (Rh af))) (below_size wB)); replace ac := Aside0.mk (Kd.R_elder' (Rh ac) (Kd.R_base ab) hb); replace ad := Aside0.mk (Kd.R_elder' (Rh ad) (Kd.R_base ab) hb); replace ae := Aside0.mk (Kd.R_elder' (Rh ae) (Kd.R_base ab) hb); replace af := Aside0.mk (Kd.R_elder' (Rh af) (Kd.R_base ab) hb); replace aa := Aside0.mk (blk_below (Bh aa) hb); replace HB := Aside0.mk (below_step wB hb); clear hb; (try clear ab)))
 have n0_ := Aside0.mk (Kd.R_drew ac.out)
 have n1_ := Aside0.mk (Kd.R_drew ad.out)
 have n2_ := Aside0.mk (Kd.R_drew ae.out)
 have n3_ := Aside0.mk (Kd.R_drew af.out)
 have n4_ := Aside0.mk (Kd.R_drew ag.out)
 have n5_ := Aside0.mk (blk_drew aa.out)
 have n6_ := Aside0.mk (below_drew1 HB.out)
 clear ac
 clear ad
 clear ae
 clear af
 clear ag
 clear aa
 clear HB
 have ac := n0_
 have ad := n1_
 have ae := n2_
 have af := n3_
 have ag := n4_
 have aa := n5_
 have HB := n6_
 clear n0_ n1_ n2_ n3_ n4_ n5_ n6_
 refine start_ (n := 15) (S := fun w' => w'.cell? ⟨an, 0, none⟩ = some (.int .i64 az) ∧ w'.cell? ⟨an, 1, none⟩ = some (.int .i64 aF) ∧ w'.cell? ⟨an, 2, none⟩ = some (.bool aG) ∧ w'.cell? ⟨an, 3, none⟩ = some (.bool aH) ∧ w'.cell? ⟨an, 4, none⟩ = some (.int .i64 aI) ∧ w'.cell? ⟨an, 5, none⟩ = some (.int .i64 ax) ∧ w'.cell? ⟨an, 6, none⟩ = some (.int .i64 ay) ∧ w'.cell? ⟨an, 7, none⟩ = some (.int .i64 aD) ∧ w'.cell? ⟨an, 8, none⟩ = some (.int .i64 aE) ∧ w'.cell? ⟨an, 9, none⟩ = some (.slice A0_9 ao.length bo) ∧ w'.cell? ⟨an, 10, none⟩ = some (.slice A0_10 au.length aZ)) (ds := []) #[false, false, false, false, false, false, false, false, false, false, false, false, false, false, false] (by kernel_rfl) rfl rfl ⟨(blk_cell aa.out 0).trans rfl, (blk_cell aa.out 1).trans rfl, (blk_cell aa.out 2).trans rfl, (blk_cell aa.out 3).trans rfl, (blk_cell aa.out 4).trans rfl, (blk_cell aa.out 5).trans rfl, (blk_cell aa.out 6).trans rfl, (blk_cell aa.out 7).trans rfl, (blk_cell aa.out 8).trans rfl, (blk_cell aa.out 9).trans rfl, (blk_cell aa.out 10).trans rfl⟩ (fun hHeld => ?_); refine with_tabW spec_l05Head.tab5 spec_l05Head.bits5 (fun HT_ HW_ => ?_)
 generalize cq.drew = eq at ac ad ae af ag aa HB hHeld ⊢
 refine pure_ (i := 0) (N := some 31) (v := ?_) (a' := ?_) #[true, false, false, false, false, false, false, false, false, false, false, false, false, false, false] rfl rfl (any_of HT_.out (by kernel_rfl)) (fun _ _ _ h => h) (Or.inl ⟨by rfl, ?_⟩) ?_ ?_
 rotate_left
 {
 intro w'
 go_simp
 with_reducible rfl
 }
 rotate_left
 {
 simp only [Act.put, List.setIfInBounds_toArray, List.set_cons_zero, List.set_cons_succ, i64_w, i32_w]
 rfl
 }
 refine pure_ (i := 1) (N := some 32) (v := ?_) (a' := ?_) #[true, true, false, false, false, false, false, false, false, false, false, false, false, false, false] rfl rfl (any_of HT_.out (by kernel_rfl)) (fun _ _ _ h => h) (Or.inl ⟨by rfl, ?_⟩) ?_ ?_
 rotate_left
 {
 intro w'
 go_simp
 with_reducible rfl
 }
 rotate_left
 {
 simp only [Act.put, List.setIfInBounds_toArray, List.set_cons_zero, List.set_cons_succ, i64_w, i32_w]
 rfl
 }
 refine pure_ (i := 4) (N := some 35) (v := ?_) (a' := ?_) #[true, true, false, false, true, false, false, false, false, false, false, false, false, false, false] rfl rfl (any_of HT_.out (by kernel_rfl)) (fun _ _ _ h => h) (Or.inl ⟨by rfl, ?_⟩) ?_ ?_
 rotate_left
 {
 intro w'
 go_simp
 with_reducible rfl
 }
 rotate_left
 {
 simp only [Act.put, List.setIfInBounds_toArray, List.set_cons_zero, List.set_cons_succ, i64_w, i32_w]
 rfl
 }
 refine pure_ (i := 8) (N := some 39) (v := ?_) (a' := ?_) #[true, true, false, false, true, false, false, false, true, false, false, false, false, false, false] rfl rfl (any_of HT_.out (by kernel_rfl)) (fun _ _ _ h => h) (Or.inl ⟨by rfl, ?_⟩) ?_ ?_
 rotate_left
 {
 intro w'
 go_simp
 with_reducible rfl
 }
 rotate_left
 {
 simp only [Act.put, List.setIfInBounds_toArray, List.set_cons_zero, List.set_cons_succ, i64_w, i32_w]
 rfl
 }
 refine take_ (i := 2) (N := some 33) (v := ?_) (a' := ?_) #[true, true, true, false, true, false, false, false, true, false, false, false, false, false, false] rfl rfl (take_ofW HT_.out HW_.out (by kernel_rfl)) (fun _ _ _ h => h) (Or.inl ⟨by rfl, ?_⟩) hHeld ?_ ?_
 rotate_left
 {
 rintro w' ⟨s0, s1, s2, s3, s4, s5, s6, s7, s8, s9, bF⟩
 go_simp
 with_reducible rfl
 }
 rotate_left
 {
 simp only [Act.put, List.setIfInBounds_toArray, List.set_cons_zero, List.set_cons_succ, i64_w, i32_w]
 rfl
 }
 refine take_ (i := 5) (N := some 36) (v := ?_) (a' := ?_) #[true, true, true, false, true, true, false, false, true, false, false, false, false, false, false] rfl rfl (take_ofW HT_.out HW_.out (by kernel_rfl)) (fun _ _ _ h => h) (Or.inl ⟨by rfl, ?_⟩) hHeld ?_ ?_
 rotate_left
 {
 rintro w' ⟨s0, s1, s2, s3, s4, s5, s6, s7, s8, s9, bF⟩
 go_simp
 with_reducible rfl
 }
 rotate_left
 {
 simp only [Act.put, List.setIfInBounds_toArray, List.set_cons_zero, List.set_cons_succ, i64_w, i32_w]
 rfl
 }
 refine take_ (i := 9) (N := some 40) (v := ?_) (a' := ?_) #[true, true, true, false, true, true, false, false, true, true, false, false, false, false, false] rfl rfl (take_ofW HT_.out HW_.out (by kernel_rfl)) (fun _ _ _ h => h) (Or.inl ⟨by rfl, ?_⟩) hHeld ?_ ?_
 rotate_left
 {
 rintro w' ⟨s0, s1, s2, s3, s4, s5, s6, s7, s8, s9, bF⟩
 go_simp
 with_reducible rfl
 }
 rotate_left
 {
 simp only [Act.put, List.setIfInBounds_toArray, List.set_cons_zero, List.set_cons_succ, i64_w, i32_w]
 rfl
 }
 refine pure_ (i := 10) (N := some 41) (v := ?_) (a' := ?_) #[true, true, true, false, true, true, false, false, true, true, true, false, false, false, false] rfl rfl (any_of HT_.out (by kernel_rfl)) (fun _ _ _ h => h) (Or.inl ⟨by rfl, ?_⟩) ?_ ?_
 rotate_left
 {
 intro w'
 go_simp
 with_reducible rfl
 }
 rotate_left
 {
 simp only [Act.put, List.setIfInBounds_toArray, List.set_cons_zero, List.set_cons_succ, i64_w, i32_w]
 rfl
 }
 refine one_ (i := 3) (N := some 34) #[true, true, true, true, true, true, false, false, true, true, true, false, false, false, false] rfl rfl (one_of HT_.out (by kernel_rfl)) (by decide) (fun K hK => ?_)
 refine goes_ Try.func81 (by kernel_rfl) rfl #[.bool aG, .int .i64 16384] (by rfl) rfl rfl wT ?_
 with_reducible refine (spec_l05Flag.calls aG 16384 aW _ A6.out).mono ?_
 rintro e w' ⟨rfl, ⟨nd, rfl⟩⟩
 refine ⟨_, rfl, ?_⟩
 refine hK.out _ _ ⟨(blk_cell aa.out 0).trans rfl, (blk_cell aa.out 1).trans rfl, (blk_cell aa.out 2).trans rfl, (blk_cell aa.out 3).trans rfl, (blk_cell aa.out 4).trans rfl, (blk_cell aa.out 5).trans rfl, (blk_cell aa.out 6).trans rfl, (blk_cell aa.out 7).trans rfl, (blk_cell aa.out 8).trans rfl, (blk_cell aa.out 9).trans rfl, (blk_cell aa.out 10).trans rfl⟩ (fun hHeld => ?_)
 clear hK K
 refine norm_ (a' := ?_) ?_ ?_
 rotate_left
 {
 show Act.put _ (some 34) _ = _
 simp only [Act.put, List.setIfInBounds_toArray, List.set_cons_zero, List.set_cons_succ, i64_w, i32_w]
 rfl
 }
 refine one_ (i := 6) (N := some 37) #[true, true, true, true, true, true, true, false, true, true, true, false, false, false, false] rfl rfl (one_of HT_.out (by kernel_rfl)) (by decide) (fun K hK => ?_)
 refine goes_ Try.func81 (by kernel_rfl) rfl #[.bool aH, .int .i64 8192] (by rfl) rfl rfl wT ?_
 with_reducible refine (spec_l05Flag.calls aH 8192 aX _ A7.out).mono ?_
 rintro e w' ⟨rfl, ⟨nd, rfl⟩⟩
 refine ⟨_, rfl, ?_⟩
 refine hK.out _ _ ⟨(blk_cell aa.out 0).trans rfl, (blk_cell aa.out 1).trans rfl, (blk_cell aa.out 2).trans rfl, (blk_cell aa.out 3).trans rfl, (blk_cell aa.out 4).trans rfl, (blk_cell aa.out 5).trans rfl, (blk_cell aa.out 6).trans rfl, (blk_cell aa.out 7).trans rfl, (blk_cell aa.out 8).trans rfl, (blk_cell aa.out 9).trans rfl, (blk_cell aa.out 10).trans rfl⟩ (fun hHeld => ?_)
 clear hK K
 refine norm_ (a' := ?_) ?_ ?_
 rotate_left
 {
 show Act.put _ (some 37) _ = _
 simp only [Act.put, List.setIfInBounds_toArray, List.set_cons_zero, List.set_cons_succ, i64_w, i32_w]
 rfl
 }
 refine pure_ (i := 7) (N := some 38) (v := ?_) (a' := ?_) #[true, true, true, true, true, true, true, true, true, true, true, false, false, false, false] rfl rfl (any_of HT_.out (by kernel_rfl)) (fun _ _ _ h => h) (Or.inl ⟨by rfl, ?_⟩) ?_ ?_
 rotate_left
 {
 intro w'
 go_simp
 with_reducible rfl
 }
 rotate_left
 {
 simp only [Act.put, List.setIfInBounds_toArray, List.set_cons_zero, List.set_cons_succ, i64_w, i32_w]
 rfl
 }
 refine pure_ (i := 11) (N := some 42) (v := ?_) (a' := ?_) #[true, true, true, true, true, true, true, true, true, true, true, true, false, false, false] rfl rfl (any_of HT_.out (by kernel_rfl)) (fun _ _ _ h => h) (Or.inl ⟨by rfl, ?_⟩) ?_ ?_
 rotate_left
 {
 intro w'
 go_simp
 with_reducible rfl
 }
 rotate_left
 {
 simp only [Act.put, List.setIfInBounds_toArray, List.set_cons_zero, List.set_cons_succ, i64_w, i32_w]
 rfl
 }
 refine one_ (i := 12) (N := some 43) #[true, true, true, true, true, true, true, true, true, true, true, true, true, false, false] rfl rfl (one_of HT_.out (by kernel_rfl)) (by decide) (fun K hK => ?_)
 refine goes_ Try.func73 (by kernel_rfl) rfl #[.int .i64 (wrap64 ((wrap64 (aW + aX)) + (wrap64 (Int.tdiv aI 8)))), .int .i64 2] (by rfl) rfl rfl wT ?_
 with_reducible refine (spec_l03Put.calls k (wrap64 ((wrap64 (aW + aX)) + (wrap64 (Int.tdiv aI 8)))) 2 aY _ A8.out).mono ?_
 rintro e er ⟨eE, rfl, ab, hb⟩
 refine ⟨_, rfl, ?_⟩
 have n0_ := Aside0.mk (Kd.R_elder' (Rh ac) (Kd.R_base ab) hb)
 have n1_ := Aside0.mk (Kd.R_elder' (Rh ad) (Kd.R_base ab) hb)
 have n2_ := Aside0.mk (Kd.R_elder' (Rh ae) (Kd.R_base ab) hb)
 have n3_ := Aside0.mk (Kd.R_elder' (Rh af) (Kd.R_base ab) hb)
 have n4_ := Aside0.mk (Kd.R_elder' (Rh ag) (Kd.R_base ab) hb)
 have n5_ := Aside0.mk (Kd.R_lower (Kd.R_new' (Kd.R_new' (Kd.R_new' (Kd.R_new' (Kd.R_new' ab (Kd.R_lt (Rh ac))) (Kd.R_lt (Rh ad))) (Kd.R_lt (Rh ae))) (Kd.R_lt (Rh af))) (Kd.R_lt (Rh ag))) (below_size wB))
 have n6_ := Aside0.mk (blk_below (Bh aa) hb)
 have n7_ := Aside0.mk (below_step wB hb)
 clear ac
 clear ad
 clear ae
 clear af
 clear ag
 clear aa
 clear HB
 have ac := n0_
 have ad := n1_
 have ae := n2_
 have af := n3_
 have ag := n4_
 have ah := n5_
 have aa := n6_
 have HB := n7_
 clear n0_ n1_ n2_ n3_ n4_ n5_ n6_ n7_
 (try clear hb)
 (try clear hb2)
 (try clear hk)
 (try clear hi)
 (try clear ab)
 obtain ⟨bT, bU, br⟩ := Kd.R_slice ag.out
 (first | subst br | (injection br with f1_ f2_ f3_; have f4_ := f1_.symm; have f5_ := f3_.symm; clear f1_ f2_ f3_; subst f4_; subst f5_))
 obtain ⟨bV, bW, bs⟩ := Kd.R_slice ah.out
 (first | subst bs | (injection bs with f1_ f2_ f3_; have f4_ := f1_.symm; have f5_ := f3_.symm; clear f1_ f2_ f3_; subst f4_; subst f5_))
 refine hK.out _ _ ⟨(blk_cell aa.out 0).trans rfl, (blk_cell aa.out 1).trans rfl, (blk_cell aa.out 2).trans rfl, (blk_cell aa.out 3).trans rfl, (blk_cell aa.out 4).trans rfl, (blk_cell aa.out 5).trans rfl, (blk_cell aa.out 6).trans rfl, (blk_cell aa.out 7).trans rfl, (blk_cell aa.out 8).trans rfl, (blk_cell aa.out 9).trans rfl, (blk_cell aa.out 10).trans rfl⟩ (fun hHeld => ?_)
 clear hK K
 refine norm_ (a' := ?_) ?_ ?_
 rotate_left
 {
 show Act.put _ (some 43) _ = _
 simp only [Act.put, List.setIfInBounds_toArray, List.set_cons_zero, List.set_cons_succ, i64_w, i32_w]
 rfl
 }
 refine one_ (i := 13) (N := some 44) #[true, true, true, true, true, true, true, true, true, true, true, true, true, true, false] rfl rfl (one_of HT_.out (by kernel_rfl)) (by decide) (fun K hK => ?_)
 refine goes_ Try.func32 (by kernel_rfl) rfl #[.slice bT aV.length bU, .slice bV aY.length bW] (by rfl) rfl rfl wT ?_
 with_reducible refine (spec_l01Join.calls k _ _ aV _ _ aY aO _ ?side1 ?side2 ?side3 ?side4 A9.out).mono ?_
 (case side1 => exact Ch ag)
 (case side2 => exact (Kd.R_reads' ag.out).2.1)
 (case side3 => exact Ch ah)
 (case side4 => exact (Kd.R_reads' ah.out).2.1)
 rintro e es ⟨eF, rfl, ab, hb⟩
 refine ⟨_, rfl, ?_⟩
 have n0_ := Aside0.mk (Kd.R_elder' (Rh ac) (Kd.R_base ab) hb)
 have n1_ := Aside0.mk (Kd.R_elder' (Rh ad) (Kd.R_base ab) hb)
 have n2_ := Aside0.mk (Kd.R_elder' (Rh ae) (Kd.R_base ab) hb)
 have n3_ := Aside0.mk (Kd.R_elder' (Rh af) (Kd.R_base ab) hb)
 have n4_ := Aside0.mk (Kd.R_elder' (Rh ag) (Kd.R_base ab) hb)
 have n5_ := Aside0.mk (Kd.R_elder' (Rh ah) (Kd.R_base ab) hb)
 have n6_ := Aside0.mk (Kd.R_lower (Kd.R_new' (Kd.R_new' (Kd.R_new' (Kd.R_new' (Kd.R_new' (Kd.R_new' ab (Kd.R_lt (Rh ac))) (Kd.R_lt (Rh ad))) (Kd.R_lt (Rh ae))) (Kd.R_lt (Rh af))) (Kd.R_lt (Rh ag))) (Kd.R_lt (Rh ah))) (below_size wB))
 have n7_ := Aside0.mk (blk_below (Bh aa) hb)
 have n8_ := Aside0.mk (below_step wB hb)
 clear ac
 clear ad
 clear ae
 clear af
 clear ag
 clear ah
 clear aa
 clear HB
 have ac := n0_
 have ad := n1_
 have ae := n2_
 have af := n3_
 have ag := n4_
 have ah := n5_
 have ai := n6_
 have aa := n7_
 have HB := n8_
 clear n0_ n1_ n2_ n3_ n4_ n5_ n6_ n7_ n8_
 (try clear hb)
 (try clear hb2)
 (try clear hk)
 (try clear hi)
 (try clear ab)
 refine hK.out _ _ ⟨(blk_cell aa.out 0).trans rfl, (blk_cell aa.out 1).trans rfl, (blk_cell aa.out 2).trans rfl, (blk_cell aa.out 3).trans rfl, (blk_cell aa.out 4).trans rfl, (blk_cell aa.out 5).trans rfl, (blk_cell aa.out 6).trans rfl, (blk_cell aa.out 7).trans rfl, (blk_cell aa.out 8).trans rfl, (blk_cell aa.out 9).trans rfl, (blk_cell aa.out 10).trans rfl⟩ (fun hHeld => ?_)
 clear hK K
 refine norm_ (a' := ?_) ?_ ?_
 rotate_left
 {
 show Act.put _ (some 44) _ = _
 simp only [Act.put, List.setIfInBounds_toArray, List.set_cons_zero, List.set_cons_succ, i64_w, i32_w]
 rfl
 }
 refine pure_ (i := 14) (N := some 4) (v := ?_) (a' := ?_) #[true, true, true, true, true, true, true, true, true, true, true, true, true, true, true] rfl rfl (any_of HT_.out (by kernel_rfl)) (fun _ _ _ h => h) (Or.inl ⟨by rfl, ?_⟩) ?_ ?_
 rotate_left
 {
 intro w'
 go_simp
 with_reducible rfl
 }
 rotate_left
 {
 simp only [Act.put, List.setIfInBounds_toArray, List.set_cons_zero, List.set_cons_succ, i64_w, i32_w]
 rfl
 }
 refine done_ (done_of HT_.out (by kernel_rfl)) ?_
 obtain ⟨⟨dE, dF, dG, dH, dI, dJ, dK, dL, dM, dN, cr⟩, dO, dP, dQ, dR, dS, dU, dV, dW, dX, dY, cs⟩ := cells11 aa.out
 try go_wp2_with (first | ((with_reducible refine gate_dst (N := 52) rfl ?_); refine Kd.R_lit (Kd.int .u8) _ 5 ?hg (N := 52) ?hd (xs := ([(ax) % 256, (ay) % 256, 0, 0] : List Int)) (inner := [.int .u8 ((ax) % 256), .int .u8 ((ay) % 256), .int .u8 0, .int .u8 0]) (ok := fun _ => True) (okp := fun _ => True) ?hr ?hp (fun _ hk => hk) trivial (Below.refl _ _) (Nat.le_refl _) (by simp) ?_; (case hd => rfl); (case hg => rfl); (case hr => first | (go_simp; done) | (go_simp; rfl)); (case hp => exact (Reps.one (show Kd.M (Kd.int .u8) _ _ _ ((ax) % 256) [.int .u8 ((ax) % 256)] from rfl) (Reps.one (show Kd.M (Kd.int .u8) _ _ _ ((ay) % 256) [.int .u8 ((ay) % 256)] from rfl) (Reps.one (show Kd.M (Kd.int .u8) _ _ _ 0 [.int .u8 0] from rfl) (Reps.one (show Kd.M (Kd.int .u8) _ _ _ 0 [.int .u8 0] from rfl) (Reps.none _ _)))))); intro eG et ar hb hg_ hnew_; clear hg_ hnew_; (first | rw [← Ny296.out] at ar | (simp only [Int.reduceToNat] at ar; rw [← Ny296.out] at ar)); have ak := Aside0.mk (Kd.R_lower (Kd.R_new' (Kd.R_new' (Kd.R_new' (Kd.R_new' (Kd.R_new' (Kd.R_new' (Kd.R_new' ar (Kd.R_lt (Rh ac))) (Kd.R_lt (Rh ad))) (Kd.R_lt (Rh ae))) (Kd.R_lt (Rh af))) (Kd.R_lt (Rh ag))) (Kd.R_lt (Rh ah))) (Kd.R_lt (Rh ai))) (below_size wB)); replace ac := Aside0.mk (Kd.R_elder' (Rh ac) (Kd.R_base ar) hb); replace ad := Aside0.mk (Kd.R_elder' (Rh ad) (Kd.R_base ar) hb); replace ae := Aside0.mk (Kd.R_elder' (Rh ae) (Kd.R_base ar) hb); replace af := Aside0.mk (Kd.R_elder' (Rh af) (Kd.R_base ar) hb); replace ag := Aside0.mk (Kd.R_elder' (Rh ag) (Kd.R_base ar) hb); replace ah := Aside0.mk (Kd.R_elder' (Rh ah) (Kd.R_base ar) hb); replace ai := Aside0.mk (Kd.R_elder' (Rh ai) (Kd.R_base ar) hb); replace aa := Aside0.mk (blk_below (Bh aa) hb); replace HB := Aside0.mk (below_step wB hb); clear hb ar; obtain ⟨bX, bY, bZ⟩ := Kd.R_slice ai.out; subst bZ; obtain ⟨b0, b1, b2⟩ := Kd.R_slice ak.out; subst b2) | ((with_reducible refine gate_callee (f := 32) rfl ?_); refine gL (some 53) Try.func32 #[.slice bX aO.length bY, .slice b0 bB.length b1] ?_; (with_reducible refine (spec_l01Join.calls k _ _ aO _ _ bB aJ _ ?side1 ?side2 ?side3 ?side4 A10.out).mono ?_); (case side1 => exact Ch ai); (case side2 => exact (Kd.R_reads' ai.out).2.1); (case side3 => exact Ch ak); (case side4 => exact (Kd.R_reads' ak.out).2.1); rintro e ct ⟨eH, rfl, ab, hb⟩; refine ⟨_, rfl, ?_⟩; have am := Aside0.mk (Kd.R_lower (Kd.R_new' (Kd.R_new' (Kd.R_new' (Kd.R_new' (Kd.R_new' (Kd.R_new' (Kd.R_new' (Kd.R_new' ab (Kd.R_lt (Rh ac))) (Kd.R_lt (Rh ad))) (Kd.R_lt (Rh ae))) (Kd.R_lt (Rh af))) (Kd.R_lt (Rh ag))) (Kd.R_lt (Rh ah))) (Kd.R_lt (Rh ai))) (Kd.R_lt (Rh ak))) (below_size wB)); replace ac := Aside0.mk (Kd.R_elder' (Rh ac) (Kd.R_base ab) hb); replace ad := Aside0.mk (Kd.R_elder' (Rh ad) (Kd.R_base ab) hb); replace ae := Aside0.mk (Kd.R_elder' (Rh ae) (Kd.R_base ab) hb); replace af := Aside0.mk (Kd.R_elder' (Rh af) (Kd.R_base ab) hb); replace ag := Aside0.mk (Kd.R_elder' (Rh ag) (Kd.R_base ab) hb); replace ah := Aside0.mk (Kd.R_elder' (Rh ah) (Kd.R_base ab) hb); replace ai := Aside0.mk (Kd.R_elder' (Rh ai) (Kd.R_base ab) hb); replace ak := Aside0.mk (Kd.R_elder' (Rh ak) (Kd.R_base ab) hb); replace aa := Aside0.mk (blk_below (Bh aa) hb); replace HB := Aside0.mk (below_step wB hb); clear hb; (try clear ab)))
 have n0_ := Aside0.mk (Kd.R_drew ac.out)
 have n1_ := Aside0.mk (Kd.R_drew ad.out)
 have n2_ := Aside0.mk (Kd.R_drew ae.out)
 have n3_ := Aside0.mk (Kd.R_drew af.out)
 have n4_ := Aside0.mk (Kd.R_drew ag.out)
 have n5_ := Aside0.mk (Kd.R_drew ah.out)
 have n6_ := Aside0.mk (Kd.R_drew ai.out)
 have n7_ := Aside0.mk (Kd.R_drew ak.out)
 have n8_ := Aside0.mk (Kd.R_drew am.out)
 have n9_ := Aside0.mk (blk_drew aa.out)
 have n10_ := Aside0.mk (below_drew1 HB.out)
 clear ac
 clear ad
 clear ae
 clear af
 clear ag
 clear ah
 clear ai
 clear ak
 clear am
 clear aa
 clear HB
 have ac := n0_
 have ad := n1_
 have ae := n2_
 have af := n3_
 have ag := n4_
 have ah := n5_
 have ai := n6_
 have ak := n7_
 have am := n8_
 have aa := n9_
 have HB := n10_
 clear n0_ n1_ n2_ n3_ n4_ n5_ n6_ n7_ n8_ n9_ n10_
 refine start_ (n := 10) (S := fun w' => w'.cell? ⟨an, 0, none⟩ = some (.int .i64 az) ∧ w'.cell? ⟨an, 1, none⟩ = some (.int .i64 aF) ∧ w'.cell? ⟨an, 2, none⟩ = some (.bool aG) ∧ w'.cell? ⟨an, 3, none⟩ = some (.bool aH) ∧ w'.cell? ⟨an, 4, none⟩ = some (.int .i64 aI) ∧ w'.cell? ⟨an, 5, none⟩ = some (.int .i64 ax) ∧ w'.cell? ⟨an, 6, none⟩ = some (.int .i64 ay) ∧ w'.cell? ⟨an, 7, none⟩ = some (.int .i64 aD) ∧ w'.cell? ⟨an, 8, none⟩ = some (.int .i64 aE) ∧ w'.cell? ⟨an, 9, none⟩ = some (.slice A0_9 ao.length bo) ∧ w'.cell? ⟨an, 10, none⟩ = some (.slice A0_10 au.length aZ)) (ds := []) #[false, false, false, false, false, false, false, false, false, false] (by kernel_rfl) rfl rfl ⟨(blk_cell aa.out 0).trans rfl, (blk_cell aa.out 1).trans rfl, (blk_cell aa.out 2).trans rfl, (blk_cell aa.out 3).trans rfl, (blk_cell aa.out 4).trans rfl, (blk_cell aa.out 5).trans rfl, (blk_cell aa.out 6).trans rfl, (blk_cell aa.out 7).trans rfl, (blk_cell aa.out 8).trans rfl, (blk_cell aa.out 9).trans rfl, (blk_cell aa.out 10).trans rfl⟩ (fun hHeld => ?_); refine with_tabW spec_l05Head.tab7 spec_l05Head.bits7 (fun HT_ HW_ => ?_)
 generalize ct.drew = eu at ac ad ae af ag ah ai ak am aa HB hHeld ⊢
 refine pure_ (i := 0) (N := some 54) (v := ?_) (a' := ?_) #[true, false, false, false, false, false, false, false, false, false] rfl rfl (any_of HT_.out (by kernel_rfl)) (fun _ _ _ h => h) (Or.inl ⟨by rfl, ?_⟩) ?_ ?_
 rotate_left
 {
 intro w'
 go_simp
 with_reducible rfl
 }
 rotate_left
 {
 simp only [Act.put, List.setIfInBounds_toArray, List.set_cons_zero, List.set_cons_succ, i64_w, i32_w]
 rfl
 }
 refine pure_ (i := 1) (N := some 55) (v := ?_) (a' := ?_) #[true, true, false, false, false, false, false, false, false, false] rfl rfl (any_of HT_.out (by kernel_rfl)) (fun _ _ _ h => h) (Or.inl ⟨by rfl, ?_⟩) ?_ ?_
 rotate_left
 {
 intro w'
 go_simp
 with_reducible rfl
 }
 rotate_left
 {
 simp only [Act.put, List.setIfInBounds_toArray, List.set_cons_zero, List.set_cons_succ, i64_w, i32_w]
 rfl
 }
 refine pure_ (i := 5) (N := some 59) (v := ?_) (a' := ?_) #[true, true, false, false, false, true, false, false, false, false] rfl rfl (any_of HT_.out (by kernel_rfl)) (fun _ _ _ h => h) (Or.inl ⟨by rfl, ?_⟩) ?_ ?_
 rotate_left
 {
 intro w'
 go_simp
 with_reducible rfl
 }
 rotate_left
 {
 simp only [Act.put, List.setIfInBounds_toArray, List.set_cons_zero, List.set_cons_succ, i64_w, i32_w]
 rfl
 }
 refine take_ (i := 2) (N := some 56) (v := ?_) (a' := ?_) #[true, true, true, false, false, true, false, false, false, false] rfl rfl (take_ofW HT_.out HW_.out (by kernel_rfl)) (fun _ _ _ h => h) (Or.inl ⟨by rfl, ?_⟩) hHeld ?_ ?_
 rotate_left
 {
 rintro w' ⟨s0, s1, s2, s3, s4, s5, s6, s7, s8, s9, bF⟩
 go_simp
 with_reducible rfl
 }
 rotate_left
 {
 simp only [Act.put, List.setIfInBounds_toArray, List.set_cons_zero, List.set_cons_succ, i64_w, i32_w]
 rfl
 }
 refine take_ (i := 6) (N := some 60) (v := ?_) (a' := ?_) #[true, true, true, false, false, true, true, false, false, false] rfl rfl (take_ofW HT_.out HW_.out (by kernel_rfl)) (fun _ _ _ h => h) (Or.inl ⟨by rfl, ?_⟩) hHeld ?_ ?_
 rotate_left
 {
 rintro w' ⟨s0, s1, s2, s3, s4, s5, s6, s7, s8, s9, bF⟩
 go_simp
 with_reducible rfl
 }
 rotate_left
 {
 simp only [Act.put, List.setIfInBounds_toArray, List.set_cons_zero, List.set_cons_succ, i64_w, i32_w]
 rfl
 }
 refine one_ (i := 3) (N := some 57) #[true, true, true, true, false, true, true, false, false, false] rfl rfl (one_of HT_.out (by kernel_rfl)) (by decide) (fun K hK => ?_)
 refine goes_ Try.func73 (by kernel_rfl) rfl #[.int .i64 aD, .int .i64 4] (by rfl) rfl rfl wT ?_
 with_reducible refine (spec_l03Put.calls k aD 4 aK _ A11.out).mono ?_
 rintro e ev ⟨eI, rfl, ab, hb⟩
 refine ⟨_, rfl, ?_⟩
 have n0_ := Aside0.mk (Kd.R_elder' (Rh ac) (Kd.R_base ab) hb)
 have n1_ := Aside0.mk (Kd.R_elder' (Rh ad) (Kd.R_base ab) hb)
 have n2_ := Aside0.mk (Kd.R_elder' (Rh ae) (Kd.R_base ab) hb)
 have n3_ := Aside0.mk (Kd.R_elder' (Rh af) (Kd.R_base ab) hb)
 have n4_ := Aside0.mk (Kd.R_elder' (Rh ag) (Kd.R_base ab) hb)
 have n5_ := Aside0.mk (Kd.R_elder' (Rh ah) (Kd.R_base ab) hb)
 have n6_ := Aside0.mk (Kd.R_elder' (Rh ai) (Kd.R_base ab) hb)
 have n7_ := Aside0.mk (Kd.R_elder' (Rh ak) (Kd.R_base ab) hb)
 have n8_ := Aside0.mk (Kd.R_elder' (Rh am) (Kd.R_base ab) hb)
 have n9_ := Aside0.mk (Kd.R_lower (Kd.R_new' (Kd.R_new' (Kd.R_new' (Kd.R_new' (Kd.R_new' (Kd.R_new' (Kd.R_new' (Kd.R_new' (Kd.R_new' ab (Kd.R_lt (Rh ac))) (Kd.R_lt (Rh ad))) (Kd.R_lt (Rh ae))) (Kd.R_lt (Rh af))) (Kd.R_lt (Rh ag))) (Kd.R_lt (Rh ah))) (Kd.R_lt (Rh ai))) (Kd.R_lt (Rh ak))) (Kd.R_lt (Rh am))) (below_size wB))
 have n10_ := Aside0.mk (blk_below (Bh aa) hb)
 have n11_ := Aside0.mk (below_step wB hb)
 clear ac
 clear ad
 clear ae
 clear af
 clear ag
 clear ah
 clear ai
 clear ak
 clear am
 clear aa
 clear HB
 have ac := n0_
 have ad := n1_
 have ae := n2_
 have af := n3_
 have ag := n4_
 have ah := n5_
 have ai := n6_
 have ak := n7_
 have am := n8_
 have ap := n9_
 have aa := n10_
 have HB := n11_
 clear n0_ n1_ n2_ n3_ n4_ n5_ n6_ n7_ n8_ n9_ n10_ n11_
 (try clear hb)
 (try clear hb2)
 (try clear hk)
 (try clear hi)
 (try clear ab)
 obtain ⟨b3, b4, bu⟩ := Kd.R_slice am.out
 (first | subst bu | (injection bu with f1_ f2_ f3_; have f4_ := f1_.symm; have f5_ := f3_.symm; clear f1_ f2_ f3_; subst f4_; subst f5_))
 obtain ⟨b5, b6, bv⟩ := Kd.R_slice ap.out
 (first | subst bv | (injection bv with f1_ f2_ f3_; have f4_ := f1_.symm; have f5_ := f3_.symm; clear f1_ f2_ f3_; subst f4_; subst f5_))
 refine hK.out _ _ ⟨(blk_cell aa.out 0).trans rfl, (blk_cell aa.out 1).trans rfl, (blk_cell aa.out 2).trans rfl, (blk_cell aa.out 3).trans rfl, (blk_cell aa.out 4).trans rfl, (blk_cell aa.out 5).trans rfl, (blk_cell aa.out 6).trans rfl, (blk_cell aa.out 7).trans rfl, (blk_cell aa.out 8).trans rfl, (blk_cell aa.out 9).trans rfl, (blk_cell aa.out 10).trans rfl⟩ (fun hHeld => ?_)
 clear hK K
 refine norm_ (a' := ?_) ?_ ?_
 rotate_left
 {
 show Act.put _ (some 57) _ = _
 simp only [Act.put, List.setIfInBounds_toArray, List.set_cons_zero, List.set_cons_succ, i64_w, i32_w]
 rfl
 }
 refine one_ (i := 4) (N := some 58) #[true, true, true, true, true, true, true, false, false, false] rfl rfl (one_of HT_.out (by kernel_rfl)) (by decide) (fun K hK => ?_)
 refine goes_ Try.func32 (by kernel_rfl) rfl #[.slice b3 aJ.length b4, .slice b5 aK.length b6] (by rfl) rfl rfl wT ?_
 with_reducible refine (spec_l01Join.calls k _ _ aJ _ _ aK aL _ ?side1 ?side2 ?side3 ?side4 A12.out).mono ?_
 (case side1 => exact Ch am)
 (case side2 => exact (Kd.R_reads' am.out).2.1)
 (case side3 => exact Ch ap)
 (case side4 => exact (Kd.R_reads' ap.out).2.1)
 rintro e ew ⟨eJ, rfl, ab, hb⟩
 refine ⟨_, rfl, ?_⟩
 have n0_ := Aside0.mk (Kd.R_elder' (Rh ac) (Kd.R_base ab) hb)
 have n1_ := Aside0.mk (Kd.R_elder' (Rh ad) (Kd.R_base ab) hb)
 have n2_ := Aside0.mk (Kd.R_elder' (Rh ae) (Kd.R_base ab) hb)
 have n3_ := Aside0.mk (Kd.R_elder' (Rh af) (Kd.R_base ab) hb)
 have n4_ := Aside0.mk (Kd.R_elder' (Rh ag) (Kd.R_base ab) hb)
 have n5_ := Aside0.mk (Kd.R_elder' (Rh ah) (Kd.R_base ab) hb)
 have n6_ := Aside0.mk (Kd.R_elder' (Rh ai) (Kd.R_base ab) hb)
 have n7_ := Aside0.mk (Kd.R_elder' (Rh ak) (Kd.R_base ab) hb)
 have n8_ := Aside0.mk (Kd.R_elder' (Rh am) (Kd.R_base ab) hb)
 have n9_ := Aside0.mk (Kd.R_elder' (Rh ap) (Kd.R_base ab) hb)
 have n10_ := Aside0.mk (Kd.R_lower (Kd.R_new' (Kd.R_new' (Kd.R_new' (Kd.R_new' (Kd.R_new' (Kd.R_new' (Kd.R_new' (Kd.R_new' (Kd.R_new' (Kd.R_new' ab (Kd.R_lt (Rh ac))) (Kd.R_lt (Rh ad))) (Kd.R_lt (Rh ae))) (Kd.R_lt (Rh af))) (Kd.R_lt (Rh ag))) (Kd.R_lt (Rh ah))) (Kd.R_lt (Rh ai))) (Kd.R_lt (Rh ak))) (Kd.R_lt (Rh am))) (Kd.R_lt (Rh ap))) (below_size wB))
 have n11_ := Aside0.mk (blk_below (Bh aa) hb)
 have n12_ := Aside0.mk (below_step wB hb)
 clear ac
 clear ad
 clear ae
 clear af
 clear ag
 clear ah
 clear ai
 clear ak
 clear am
 clear ap
 clear aa
 clear HB
 have ac := n0_
 have ad := n1_
 have ae := n2_
 have af := n3_
 have ag := n4_
 have ah := n5_
 have ai := n6_
 have ak := n7_
 have am := n8_
 have ap := n9_
 have av := n10_
 have aa := n11_
 have HB := n12_
 clear n0_ n1_ n2_ n3_ n4_ n5_ n6_ n7_ n8_ n9_ n10_ n11_ n12_
 (try clear hb)
 (try clear hb2)
 (try clear hk)
 (try clear hi)
 (try clear ab)
 refine hK.out _ _ ⟨(blk_cell aa.out 0).trans rfl, (blk_cell aa.out 1).trans rfl, (blk_cell aa.out 2).trans rfl, (blk_cell aa.out 3).trans rfl, (blk_cell aa.out 4).trans rfl, (blk_cell aa.out 5).trans rfl, (blk_cell aa.out 6).trans rfl, (blk_cell aa.out 7).trans rfl, (blk_cell aa.out 8).trans rfl, (blk_cell aa.out 9).trans rfl, (blk_cell aa.out 10).trans rfl⟩ (fun hHeld => ?_)
 clear hK K
 refine norm_ (a' := ?_) ?_ ?_
 rotate_left
 {
 show Act.put _ (some 58) _ = _
 simp only [Act.put, List.setIfInBounds_toArray, List.set_cons_zero, List.set_cons_succ, i64_w, i32_w]
 rfl
 }
 refine one_ (i := 7) (N := some 61) #[true, true, true, true, true, true, true, true, false, false] rfl rfl (one_of HT_.out (by kernel_rfl)) (by decide) (fun K hK => ?_)
 refine goes_ Try.func73 (by kernel_rfl) rfl #[.int .i64 aE, .int .i64 4] (by rfl) rfl rfl wT ?_
 with_reducible refine (spec_l03Put.calls k aE 4 aM _ A13.out).mono ?_
 rintro e ex ⟨eK, rfl, ab, hb⟩
 refine ⟨_, rfl, ?_⟩
 have n0_ := Aside0.mk (Kd.R_elder' (Rh ac) (Kd.R_base ab) hb)
 have n1_ := Aside0.mk (Kd.R_elder' (Rh ad) (Kd.R_base ab) hb)
 have n2_ := Aside0.mk (Kd.R_elder' (Rh ae) (Kd.R_base ab) hb)
 have n3_ := Aside0.mk (Kd.R_elder' (Rh af) (Kd.R_base ab) hb)
 have n4_ := Aside0.mk (Kd.R_elder' (Rh ag) (Kd.R_base ab) hb)
 have n5_ := Aside0.mk (Kd.R_elder' (Rh ah) (Kd.R_base ab) hb)
 have n6_ := Aside0.mk (Kd.R_elder' (Rh ai) (Kd.R_base ab) hb)
 have n7_ := Aside0.mk (Kd.R_elder' (Rh ak) (Kd.R_base ab) hb)
 have n8_ := Aside0.mk (Kd.R_elder' (Rh am) (Kd.R_base ab) hb)
 have n9_ := Aside0.mk (Kd.R_elder' (Rh ap) (Kd.R_base ab) hb)
 have n10_ := Aside0.mk (Kd.R_elder' (Rh av) (Kd.R_base ab) hb)
 have n11_ := Aside0.mk (Kd.R_lower (Kd.R_new' (Kd.R_new' (Kd.R_new' (Kd.R_new' (Kd.R_new' (Kd.R_new' (Kd.R_new' (Kd.R_new' (Kd.R_new' (Kd.R_new' (Kd.R_new' ab (Kd.R_lt (Rh ac))) (Kd.R_lt (Rh ad))) (Kd.R_lt (Rh ae))) (Kd.R_lt (Rh af))) (Kd.R_lt (Rh ag))) (Kd.R_lt (Rh ah))) (Kd.R_lt (Rh ai))) (Kd.R_lt (Rh ak))) (Kd.R_lt (Rh am))) (Kd.R_lt (Rh ap))) (Kd.R_lt (Rh av))) (below_size wB))
 have n12_ := Aside0.mk (blk_below (Bh aa) hb)
 have n13_ := Aside0.mk (below_step wB hb)
 clear ac
 clear ad
 clear ae
 clear af
 clear ag
 clear ah
 clear ai
 clear ak
 clear am
 clear ap
 clear av
 clear aa
 clear HB
 have ac := n0_
 have ad := n1_
 have ae := n2_
 have af := n3_
 have ag := n4_
 have ah := n5_
 have ai := n6_
 have ak := n7_
 have am := n8_
 have ap := n9_
 have av := n10_
 have aA := n11_
 have aa := n12_
 have HB := n13_
 clear n0_ n1_ n2_ n3_ n4_ n5_ n6_ n7_ n8_ n9_ n10_ n11_ n12_ n13_
 (try clear hb)
 (try clear hb2)
 (try clear hk)
 (try clear hi)
 (try clear ab)
 obtain ⟨b7, b8, bw⟩ := Kd.R_slice av.out
 (first | subst bw | (injection bw with f1_ f2_ f3_; have f4_ := f1_.symm; have f5_ := f3_.symm; clear f1_ f2_ f3_; subst f4_; subst f5_))
 obtain ⟨b9, ca, bz⟩ := Kd.R_slice aA.out
 (first | subst bz | (injection bz with f1_ f2_ f3_; have f4_ := f1_.symm; have f5_ := f3_.symm; clear f1_ f2_ f3_; subst f4_; subst f5_))
 refine hK.out _ _ ⟨(blk_cell aa.out 0).trans rfl, (blk_cell aa.out 1).trans rfl, (blk_cell aa.out 2).trans rfl, (blk_cell aa.out 3).trans rfl, (blk_cell aa.out 4).trans rfl, (blk_cell aa.out 5).trans rfl, (blk_cell aa.out 6).trans rfl, (blk_cell aa.out 7).trans rfl, (blk_cell aa.out 8).trans rfl, (blk_cell aa.out 9).trans rfl, (blk_cell aa.out 10).trans rfl⟩ (fun hHeld => ?_)
 clear hK K
 refine norm_ (a' := ?_) ?_ ?_
 rotate_left
 {
 show Act.put _ (some 61) _ = _
 simp only [Act.put, List.setIfInBounds_toArray, List.set_cons_zero, List.set_cons_succ, i64_w, i32_w]
 rfl
 }
 refine one_ (i := 8) (N := some 62) #[true, true, true, true, true, true, true, true, true, false] rfl rfl (one_of HT_.out (by kernel_rfl)) (by decide) (fun K hK => ?_)
 refine goes_ Try.func32 (by kernel_rfl) rfl #[.slice b7 aL.length b8, .slice b9 aM.length ca] (by rfl) rfl rfl wT ?_
 with_reducible refine (spec_l01Join.calls k _ _ aL _ _ aM aN _ ?side1 ?side2 ?side3 ?side4 A14.out).mono ?_
 (case side1 => exact Ch av)
 (case side2 => exact (Kd.R_reads' av.out).2.1)
 (case side3 => exact Ch aA)
 (case side4 => exact (Kd.R_reads' aA.out).2.1)
 rintro e ey ⟨eL, rfl, ab, hb⟩
 refine ⟨_, rfl, ?_⟩
 have n0_ := Aside0.mk (Kd.R_elder' (Rh ac) (Kd.R_base ab) hb)
 have n1_ := Aside0.mk (Kd.R_elder' (Rh ad) (Kd.R_base ab) hb)
 have n2_ := Aside0.mk (Kd.R_elder' (Rh ae) (Kd.R_base ab) hb)
 have n3_ := Aside0.mk (Kd.R_elder' (Rh af) (Kd.R_base ab) hb)
 have n4_ := Aside0.mk (Kd.R_elder' (Rh ag) (Kd.R_base ab) hb)
 have n5_ := Aside0.mk (Kd.R_elder' (Rh ah) (Kd.R_base ab) hb)
 have n6_ := Aside0.mk (Kd.R_elder' (Rh ai) (Kd.R_base ab) hb)
 have n7_ := Aside0.mk (Kd.R_elder' (Rh ak) (Kd.R_base ab) hb)
 have n8_ := Aside0.mk (Kd.R_elder' (Rh am) (Kd.R_base ab) hb)
 have n9_ := Aside0.mk (Kd.R_elder' (Rh ap) (Kd.R_base ab) hb)
 have n10_ := Aside0.mk (Kd.R_elder' (Rh av) (Kd.R_base ab) hb)
 have n11_ := Aside0.mk (Kd.R_elder' (Rh aA) (Kd.R_base ab) hb)
 have n12_ := Aside0.mk (Kd.R_lower (Kd.R_new' (Kd.R_new' (Kd.R_new' (Kd.R_new' (Kd.R_new' (Kd.R_new' (Kd.R_new' (Kd.R_new' (Kd.R_new' (Kd.R_new' (Kd.R_new' (Kd.R_new' ab (Kd.R_lt (Rh ac))) (Kd.R_lt (Rh ad))) (Kd.R_lt (Rh ae))) (Kd.R_lt (Rh af))) (Kd.R_lt (Rh ag))) (Kd.R_lt (Rh ah))) (Kd.R_lt (Rh ai))) (Kd.R_lt (Rh ak))) (Kd.R_lt (Rh am))) (Kd.R_lt (Rh ap))) (Kd.R_lt (Rh av))) (Kd.R_lt (Rh aA))) (below_size wB))
 have n13_ := Aside0.mk (blk_below (Bh aa) hb)
 have n14_ := Aside0.mk (below_step wB hb)
 clear ac
 clear ad
 clear ae
 clear af
 clear ag
 clear ah
 clear ai
 clear ak
 clear am
 clear ap
 clear av
 clear aA
 clear aa
 clear HB
 have ac := n0_
 have ad := n1_
 have ae := n2_
 have af := n3_
 have ag := n4_
 have ah := n5_
 have ai := n6_
 have ak := n7_
 have am := n8_
 have ap := n9_
 have av := n10_
 have aA := n11_
 have aw := n12_
 have aa := n13_
 have HB := n14_
 clear n0_ n1_ n2_ n3_ n4_ n5_ n6_ n7_ n8_ n9_ n10_ n11_ n12_ n13_ n14_
 (try clear hb)
 (try clear hb2)
 (try clear hk)
 (try clear hi)
 (try clear ab)
 refine hK.out _ _ ⟨(blk_cell aa.out 0).trans rfl, (blk_cell aa.out 1).trans rfl, (blk_cell aa.out 2).trans rfl, (blk_cell aa.out 3).trans rfl, (blk_cell aa.out 4).trans rfl, (blk_cell aa.out 5).trans rfl, (blk_cell aa.out 6).trans rfl, (blk_cell aa.out 7).trans rfl, (blk_cell aa.out 8).trans rfl, (blk_cell aa.out 9).trans rfl, (blk_cell aa.out 10).trans rfl⟩ (fun hHeld => ?_)
 clear hK K
 refine norm_ (a' := ?_) ?_ ?_
 rotate_left
 {
 show Act.put _ (some 62) _ = _
 simp only [Act.put, List.setIfInBounds_toArray, List.set_cons_zero, List.set_cons_succ, i64_w, i32_w]
 rfl
 }
 refine pure_ (i := 9) (N := some 4) (v := ?_) (a' := ?_) #[true, true, true, true, true, true, true, true, true, true] rfl rfl (any_of HT_.out (by kernel_rfl)) (fun _ _ _ h => h) (Or.inl ⟨by rfl, ?_⟩) ?_ ?_
 rotate_left
 {
 intro w'
 go_simp
 with_reducible rfl
 }
 rotate_left
 {
 simp only [Act.put, List.setIfInBounds_toArray, List.set_cons_zero, List.set_cons_succ, i64_w, i32_w]
 rfl
 }
 refine done_ (done_of HT_.out (by kernel_rfl)) ?_
 obtain ⟨⟨dZ, d0, d1, d2, d3, d4, d5, d6, d7, d8, cu⟩, d9, ea, eb, ec, ed, ee, ef, eg, eh, ei, cv⟩ := cells11 aa.out
 have n_ := Aside0.mk (Kd.R_mono (ok' := (fun _ => True)) aw.out (fun k_ hk => trivial))
 clear aw
 have aw := n_
 clear n_
 (try clear ac)
 (try clear ad)
 (try clear ae)
 (try clear af)
 (try clear ag)
 (try clear ah)
 (try clear ai)
 (try clear ak)
 (try clear am)
 (try clear ap)
 (try clear av)
 (try clear aA)
 obtain ⟨cb, cc, cd⟩ := Kd.R_slice aw.out
 subst cd
 try go_wp2_with (first | ((with_reducible refine gate_callee (f := 32) rfl ?_); refine gL (some 66) Try.func32 #[.slice cb aN.length cc, .slice A0_9 ao.length bo] ?_; (with_reducible refine (spec_l01Join.calls k _ _ aN _ _ ao al _ ?side1 ?side2 ?side3 ?side4 A15.out).mono ?_); (case side1 => exact Ch aw); (case side2 => exact (Kd.R_reads' aw.out).2.1); (case side3 => exact Kd.C_below HR0_9.out wB); (case side4 => exact ci.out); rintro e aB ⟨eM, rfl, ab, hb⟩; refine ⟨_, rfl, ?_⟩; have aj := Aside0.mk (Kd.R_lower (Kd.R_new' ab (Kd.R_lt (Rh aw))) (below_size wB)); replace aw := Aside0.mk (Kd.R_elder' (Rh aw) (Kd.R_base ab) hb); replace aa := Aside0.mk (blk_below (Bh aa) hb); replace HB := Aside0.mk (below_step wB hb); clear hb; (try clear ab); have n_ := Aside0.mk (Kd.R_mono (ok' := (fun _ => True)) aj.out (fun k_ hk => trivial)); clear aj; have aj := n_; clear n_; (try clear aw); obtain ⟨ce, bp, cf⟩ := Kd.R_slice aj.out; subst cf) | ((with_reducible refine gate_callee (f := 34) rfl ?_); refine gL (some 68) Try.func34 #[.slice ce al.length bp] ?_; (with_reducible refine (spec_Checksum.calls k _ _ al aq _ ?side1 ?side2 A16.out).mono ?_); (case side1 => exact Ch aj); (case side2 => exact (Kd.R_reads' aj.out).2.1); rintro e w' ⟨rfl, ⟨nd, rfl⟩⟩; refine ⟨_, rfl, ?_⟩; (try (rw [drewN_self aB]; generalize hq_ : World.drewN aB _ = aB; replace aj := Aside0.mk (Kd.R_at hq_ aj.out); replace aa := Aside0.mk (blk_at hq_ aa.out); replace HB := Aside0.mk (below_at hq_ HB.out); clear hq_; (try (obtain ⟨⟨a4, a5, a6, a7, a8, a9, ba, bb, bc, bd, aQ⟩, be, bf, bg, bh, bi, bj, bk, bl, bm, bn, aR⟩ := cells11 aa.out)))); have p18 : 0 ≤ (10 : Int) := (by omega); have q18 : (10 : Int) < ((al.length : Int) : Int) := dT; have qi18 : (10 < al.length) = True := eq_true (by omega); obtain ⟨go18, eN, cg, ch, gl18, cl18, HG18⟩ := Kd.R_form aj.out (by omega); (first | cases cg | (injection cg with ea_ en_ ec_; (first | subst ea_ | (injection ea_ with ea_; subst ea_)); subst ec_; clear en_)); have GB18 := Aside0.mk ch; have GG18 := Aside0.mk HG18; clear ch gl18 HG18; obtain ⟨hx18_0, hf18_0⟩ := Kd.R_celln 0 aj.out (10 : Int) p18 q18; (try rw [show ((10 : Int)).toNat = 10 from rfl] at hx18_0); (try simp only [Nat.reduceMul, Nat.zero_mul, Nat.zero_add, Nat.reduceAdd] at hx18_0); (try rw [show ((10 : Int)).toNat = 10 from rfl] at hf18_0); (try simp only [Nat.reduceMul, Nat.zero_mul, Nat.zero_add, Nat.reduceAdd] at hf18_0); replace p18 := eq_true p18; replace q18 := eq_true q18; obtain ⟨hy1039_, hz1039_⟩ := Kd.R_celln 0 aj.out (10 : Int) (by omega) dT; (try simp only [Int.reduceToNat, Int.toNat_zero, Int.toNat_ofNat, Nat.reduceMul, Nat.zero_mul, Nat.zero_add] at hy1039_ hz1039_); (try rw [show ((10 : Int)).toNat = 10 from rfl] at hy1039_); (try rw [show ((10 : Int)).toNat = 10 from rfl] at hz1039_); have HP1039 := Kd.R_putg aj.out (10 : Int) ((aq / 256) % 256)) | ((with_reducible refine gate_store (t := 5) (p := 73) rfl ?_); (try (rw [drewN_self aB]; generalize hq_ : World.drewN aB _ = aB; replace aj := Aside0.mk (Kd.R_at hq_ aj.out); replace aa := Aside0.mk (blk_at hq_ aa.out); replace HB := Aside0.mk (below_at hq_ HB.out); clear hq_; (try (obtain ⟨⟨a4, a5, a6, a7, a8, a9, ba, bb, bc, bd, aQ⟩, be, bf, bg, bh, bi, bj, bk, bl, bm, bn, aR⟩ := cells11 aa.out)); (try (obtain ⟨hy1039_, hz1039_⟩ := Kd.R_celln 0 aj.out (10 : Int) (by omega) dT)); (try (try simp only [Int.reduceToNat, Int.toNat_zero, Int.toNat_ofNat, Nat.reduceMul, Nat.zero_mul, Nat.zero_add] at hy1039_ hz1039_)); (try (try rw [show ((10 : Int)).toNat = 10 from rfl] at hy1039_)); (try (try rw [show ((10 : Int)).toNat = 10 from rfl] at hz1039_)); (try (have HP1039 := Kd.R_putg aj.out (10 : Int) ((aq / 256) % 256))))); refine storeE (aB.setCell ⟨go18, (10 : Int).toNat, none⟩ (.int .u8 ((aq / 256) % 256))) ?_; intro aC hw; have hg : aB.grownBy aC (some go18) := (by rw [hw]; exact HP1039.2); have hp_ : Kd.R (Kd.int .u8) 5 aC w.heap.size (fun _ => True) (.slice (some ⟨go18, 0, none⟩) al.length bp) bC := (by rw [hw, Ny318.out]; exact HP1039.1); clear HP1039; replace aa := Aside0.mk (blk_grown (Bh aa) hg (Kd.R_ne aj.out aa.out (by decide))); replace aj := Aside0.mk (hp_); replace HB := Aside0.mk ((by rw [hw]; exact below_set (HB.out) GB18.out : Below w.heap.size w aC)); clear hg hw hp_; have p20 : 0 ≤ (11 : Int) := (by omega); have q20 : (11 : Int) < ((al.length : Int) : Int) := dT; have qi20 : (11 < al.length) = True := eq_true (by omega); obtain ⟨hx20_0, hf20_0⟩ := Kd.R_celln 0 aj.out (11 : Int) p20 q20; (try rw [show ((11 : Int)).toNat = 11 from rfl] at hx20_0); (try simp only [Nat.reduceMul, Nat.zero_mul, Nat.zero_add, Nat.reduceAdd] at hx20_0); (try rw [show ((11 : Int)).toNat = 11 from rfl] at hf20_0); (try simp only [Nat.reduceMul, Nat.zero_mul, Nat.zero_add, Nat.reduceAdd] at hf20_0); replace p20 := eq_true p20; replace q20 := eq_true q20; obtain ⟨hy1041_, hz1041_⟩ := Kd.R_celln 0 aj.out (11 : Int) (by omega) dT; (try simp only [Int.reduceToNat, Int.toNat_zero, Int.toNat_ofNat, Nat.reduceMul, Nat.zero_mul, Nat.zero_add] at hy1041_ hz1041_); (try rw [show ((11 : Int)).toNat = 11 from rfl] at hy1041_); (try rw [show ((11 : Int)).toNat = 11 from rfl] at hz1041_); have HP1041 := Kd.R_putg aj.out (11 : Int) ((aq) % 256)) | ((with_reducible refine gate_store (t := 5) (p := 77) rfl ?_); (try (rw [drewN_self aC]; generalize hq_ : World.drewN aC _ = aC; replace aj := Aside0.mk (Kd.R_at hq_ aj.out); replace aa := Aside0.mk (blk_at hq_ aa.out); replace HB := Aside0.mk (below_at hq_ HB.out); clear hq_; (try (obtain ⟨⟨a4, a5, a6, a7, a8, a9, ba, bb, bc, bd, aQ⟩, be, bf, bg, bh, bi, bj, bk, bl, bm, bn, aR⟩ := cells11 aa.out)); (try (obtain ⟨hy1041_, hz1041_⟩ := Kd.R_celln 0 aj.out (11 : Int) (by omega) dT)); (try (try simp only [Int.reduceToNat, Int.toNat_zero, Int.toNat_ofNat, Nat.reduceMul, Nat.zero_mul, Nat.zero_add] at hy1041_ hz1041_)); (try (try rw [show ((11 : Int)).toNat = 11 from rfl] at hy1041_)); (try (try rw [show ((11 : Int)).toNat = 11 from rfl] at hz1041_)); (try (have HP1041 := Kd.R_putg aj.out (11 : Int) ((aq) % 256))))); refine storeE (aC.setCell ⟨go18, (11 : Int).toNat, none⟩ (.int .u8 ((aq) % 256))) ?_; intro bq hw; have hg : aC.grownBy bq (some go18) := (by rw [hw]; exact HP1041.2); have hp_ : Kd.R (Kd.int .u8) 5 bq w.heap.size (fun _ => True) (.slice (some ⟨go18, 0, none⟩) al.length bp) bG := (by rw [hw, Ny319.out]; exact HP1041.1); clear HP1041; replace aa := Aside0.mk (blk_grown (Bh aa) hg (Kd.R_ne aj.out aa.out (by decide))); replace aj := Aside0.mk (hp_); replace HB := Aside0.mk ((by rw [hw]; exact below_set (HB.out) GB18.out : Below w.heap.size w bq)); clear hg hw hp_))
 go_ret
 exact ⟨_, eR, by (with_reducible repeat (first | apply Kd.R_alloc | apply Kd.R_drewN | apply Kd.R_drew)); exact aj.out, wB⟩
 }
 {
 rw [if_neg bE] at H
 exact absurd H (by simp)
 }
 }
 {
 rw [if_neg bD] at H
 exact absurd H (by simp)
 }

end Go.Proofs.Ytckhadlmhbhngaa.PFnComplain
