-- Written for this claim by a program of this session (wip/mkprint.py: the print, turned at a few places). Not trusted: Lean checks it.
import Derived.Test.YtfllcmeakcbiaaaPFnOneBitx0
import Derived.Test.YtfllcmeakcbiaaaPFnOneBitx4
import Derived.Test.YtfllcmeakcbiaaaPFnOneBitx5
namespace Go.Proofs.Ytfllcmeakcbiaaa.PFnOneBit
open Go.RowKit Go.Proofs.YtfllcmeakcbiaaaW.PrintWords Go.Proofs.YtfllcmeakcbiaaaW.PrintLast Go.Proofs.YtfllcmeakcbiaaaW.PrintMore
attribute [local go_sem] max2_int min2_int max_two min_two max_three min_three max_four min_four   -- for this text's walks alone
set_option linter.unusedVariables false
set_option linter.unusedSimpArgs false

/-! ### spec_DrawEncodeUdp: function 14 -/
def spec_DrawEncodeUdp.f (k : Nat) (l0 : List Int) : Option (Int × Int × List Int × Int × Int) := (spec_l01Begin.f k l0).bind fun ah => ((spec_l10Datagram.f k l0 ah.1 ah.2).bind fun aa => ((spec_l02Host.f l0 aa.2.2.2.1 aa.2.2.2.2).bind fun ab => ((spec_l02Host.f l0 ab.2.1 ab.2.2).bind fun ac => ((spec_l01Next.f l0 ac.2.1 ac.2.2 16).bind fun ad => (if ad.1 = 0 then (some (65536, aa.2.1, aa.2.2.1, ab.1, ac.1)) else (if ad.1 = 1 then (some (aa.1, (-1), aa.2.2.1, ab.1, ac.1)) else (if ad.1 = 2 then (some (aa.1, aa.2.1, aa.2.2.1, (-1), ac.1)) else (if ad.1 = 3 then (some (aa.1, aa.2.1, aa.2.2.1, ab.1, 4294967296)) else (if ad.1 = 4 then ((spec_l01Next.f l0 ad.2.1 ad.2.2 2).bind fun ag => (if 0 ≤ (wrap64 (65507 + ag.1)) then (if (wrap64 (65507 + ag.1) : Int).toNat ≤ 281474976710656 then (some (aa.1, aa.2.1, (List.replicate (wrap64 (65507 + ag.1) : Int).toNat 0), ab.1, ac.1)) else (none)) else (none))) else (if ad.1 = 5 then (some (65535, 65535, (([255, 255] : List Int)), ab.1, ac.1)) else (if ad.1 = 6 then ((some (([0, 0] : List Int) : List Int)).bind fun ai => ((spec_EncodeUdp.f k aa.1 aa.2.1 ai ab.1 ac.1).bind fun ae => (if ae.2 = 0 then (if 6 < (ae.1.length : Int) then (if 7 < (ae.1.length : Int) then (some (aa.1, aa.2.1, (([rd ae.1 6, rd ae.1 7] : List Int)), ab.1, ac.1)) else (none)) else (none)) else (some (aa.1, aa.2.1, ai, ab.1, ac.1))))) else (if ad.1 = 7 then ((some (([0, 0] : List Int) : List Int)).bind fun aj => ((spec_EncodeUdp.f k aa.1 aa.2.1 aj ab.1 ac.1).bind fun af => (if af.2 = 0 then (if 6 < (af.1.length : Int) then (if 7 < (af.1.length : Int) then (some (aa.1, aa.2.1, (([rd af.1 6, rd af.1 7] : List Int)), ab.1, ac.1)) else (none)) else (none)) else (some (aa.1, aa.2.1, aj, ab.1, ac.1))))) else (some (aa.1, aa.2.1, aa.2.2.1, ab.1, ac.1))))))))))))))
theorem spec_DrawEncodeUdp.mono : ∀ a0 k, LeO (spec_DrawEncodeUdp.f k a0) (spec_DrawEncodeUdp.f (k + 1) a0) := by
 intro a0 k
 unfold spec_DrawEncodeUdp.f
 repeat' first
     | (with_reducible exact spec_EncodeUdp.mono _ _ _ _ _ _)
     | (with_reducible exact spec_l01Begin.mono _ _)
     | (with_reducible exact spec_l10Datagram.mono _ _ _ _)
     | (with_reducible exact LeO.refl _)
     | (with_reducible exact LeO.none _)
     | (with_reducible refine LeO.ite ?_ ?_)
     | (with_reducible refine LeO.bind ?_ (fun _ => ?_))
     | exact spec_EncodeUdp.mono _ _ _ _ _ _
     | exact spec_l01Begin.mono _ _
     | exact spec_l10Datagram.mono _ _ _ _
     | exact LeO.none _
     | refine LeO.ite ?_ ?_
     | refine LeO.bind ?_ (fun _ => ?_)
def spec_DrawEncodeUdp.T23 : Bool × List (List Nat × List Nat) := (true, [([], []), ([0], [0]), ([1], [1]), ([], []), ([3], [3]), ([4], [4]), ([2, 5], [2, 5]), ([0, 1, 2, 3, 4, 5, 6], []), ([7, 6, 0, 1, 2, 3, 4, 5, 6], [6, 7])])
def spec_DrawEncodeUdp.B23 : List Nat := [0, 1, 3, 0, 8, 24, 63, 127, 255]
theorem spec_DrawEncodeUdp.tab23 : rtab .any (opsOf Try.f14 23) = spec_DrawEncodeUdp.T23 := by kernel_rfl
theorem spec_DrawEncodeUdp.bits23 : waitsOk spec_DrawEncodeUdp.T23.2 spec_DrawEncodeUdp.B23 = true := by kernel_rfl
set_option maxHeartbeats 60000000 in
set_option maxRecDepth 100000 in
theorem spec_DrawEncodeUdp.calls (k : Nat) (A0 : Option Addr) (c0 : Nat) (l0 : List Int) (r1 : Int) (r2 : Int) (r3 : List Int) (r4 : Int) (r5 : Int) (w : World) (hr0 : Kd.C (Kd.int .u8) w A0 l0.length l0) (hc0 : l0.length ≤ c0) (h : spec_DrawEncodeUdp.f k l0 = some (r1, r2, r3, r4, r5)) :
 Calls Try.prog 14 #[.slice A0 l0.length c0] w fun e w' => ∃ v2_ : Value, e = .returned (.tuple #[.agg #[.int .i64 r1, .int .i64 r2, v2_], .int .i64 r4, .int .i64 r5]) ∧ Kd.R (Kd.int .u8) 5 w' w.heap.size (fun _ => True) v2_ r3 ∧ Below w.heap.size w w' := by
 have hu39 := Try.underlying39
 have hu64 := Try.underlying64
 have HR0 := Aside0.mk hr0
 have dJ := Aside0.mk hc0
 clear hr0 hc0
 have HB := Aside0.mk (Below.refl w.heap.size w)
 have H : ((spec_l01Begin.f k l0).bind fun cO => ((spec_l10Datagram.f k l0 cO.1 cO.2).bind fun aq => ((spec_l02Host.f l0 aq.2.2.2.1 aq.2.2.2.2).bind fun ay => ((spec_l02Host.f l0 ay.2.1 ay.2.2).bind fun ar => ((spec_l01Next.f l0 ar.2.1 ar.2.2 16).bind fun au => (if au.1 = 0 then (some (65536, aq.2.1, aq.2.2.1, ay.1, ar.1)) else (if au.1 = 1 then (some (aq.1, (-1), aq.2.2.1, ay.1, ar.1)) else (if au.1 = 2 then (some (aq.1, aq.2.1, aq.2.2.1, (-1), ar.1)) else (if au.1 = 3 then (some (aq.1, aq.2.1, aq.2.2.1, ay.1, 4294967296)) else (if au.1 = 4 then ((spec_l01Next.f l0 au.2.1 au.2.2 2).bind fun aY => (if 0 ≤ (wrap64 (65507 + aY.1)) then (if (wrap64 (65507 + aY.1) : Int).toNat ≤ 281474976710656 then (some (aq.1, aq.2.1, (List.replicate (wrap64 (65507 + aY.1) : Int).toNat 0), ay.1, ar.1)) else (none)) else (none))) else (if au.1 = 5 then (some (65535, 65535, (([255, 255] : List Int)), ay.1, ar.1)) else (if au.1 = 6 then ((some (([0, 0] : List Int) : List Int)).bind fun aw => ((spec_EncodeUdp.f k aq.1 aq.2.1 aw ay.1 ar.1).bind fun aC => (if aC.2 = 0 then (if 6 < (aC.1.length : Int) then (if 7 < (aC.1.length : Int) then (some (aq.1, aq.2.1, (([rd aC.1 6, rd aC.1 7] : List Int)), ay.1, ar.1)) else (none)) else (none)) else (some (aq.1, aq.2.1, aw, ay.1, ar.1))))) else (if au.1 = 7 then ((some (([0, 0] : List Int) : List Int)).bind fun ax => ((spec_EncodeUdp.f k aq.1 aq.2.1 ax ay.1 ar.1).bind fun aD => (if aD.2 = 0 then (if 6 < (aD.1.length : Int) then (if 7 < (aD.1.length : Int) then (some (aq.1, aq.2.1, (([rd aD.1 6, rd aD.1 7] : List Int)), ay.1, ar.1)) else (none)) else (none)) else (some (aq.1, aq.2.1, ax, ay.1, ar.1))))) else (some (aq.1, aq.2.1, aq.2.2.1, ay.1, ar.1))))))))))))))) = some (r1, r2, r3, r4, r5) := h
 clear h
 replace H := Option.bind_eq_some_iff.mp H
 obtain ⟨⟨b0, b8⟩, A20, H⟩ := H
 replace H : ((spec_l10Datagram.f k l0 b0 b8).bind fun aq => ((spec_l02Host.f l0 aq.2.2.2.1 aq.2.2.2.2).bind fun ay => ((spec_l02Host.f l0 ay.2.1 ay.2.2).bind fun ar => ((spec_l01Next.f l0 ar.2.1 ar.2.2 16).bind fun au => (if au.1 = 0 then (some (65536, aq.2.1, aq.2.2.1, ay.1, ar.1)) else (if au.1 = 1 then (some (aq.1, (-1), aq.2.2.1, ay.1, ar.1)) else (if au.1 = 2 then (some (aq.1, aq.2.1, aq.2.2.1, (-1), ar.1)) else (if au.1 = 3 then (some (aq.1, aq.2.1, aq.2.2.1, ay.1, 4294967296)) else (if au.1 = 4 then ((spec_l01Next.f l0 au.2.1 au.2.2 2).bind fun aY => (if 0 ≤ (wrap64 (65507 + aY.1)) then (if (wrap64 (65507 + aY.1) : Int).toNat ≤ 281474976710656 then (some (aq.1, aq.2.1, (List.replicate (wrap64 (65507 + aY.1) : Int).toNat 0), ay.1, ar.1)) else (none)) else (none))) else (if au.1 = 5 then (some (65535, 65535, (([255, 255] : List Int)), ay.1, ar.1)) else (if au.1 = 6 then ((some (([0, 0] : List Int) : List Int)).bind fun aw => ((spec_EncodeUdp.f k aq.1 aq.2.1 aw ay.1 ar.1).bind fun aC => (if aC.2 = 0 then (if 6 < (aC.1.length : Int) then (if 7 < (aC.1.length : Int) then (some (aq.1, aq.2.1, (([rd aC.1 6, rd aC.1 7] : List Int)), ay.1, ar.1)) else (none)) else (none)) else (some (aq.1, aq.2.1, aw, ay.1, ar.1))))) else (if au.1 = 7 then ((some (([0, 0] : List Int) : List Int)).bind fun ax => ((spec_EncodeUdp.f k aq.1 aq.2.1 ax ay.1 ar.1).bind fun aD => (if aD.2 = 0 then (if 6 < (aD.1.length : Int) then (if 7 < (aD.1.length : Int) then (some (aq.1, aq.2.1, (([rd aD.1 6, rd aD.1 7] : List Int)), ay.1, ar.1)) else (none)) else (none)) else (some (aq.1, aq.2.1, ax, ay.1, ar.1))))) else (some (aq.1, aq.2.1, aq.2.2.1, ay.1, ar.1)))))))))))))) = some (r1, r2, r3, r4, r5) := H
 have A2 := Aside0.mk A20
 clear A20
 replace H := Option.bind_eq_some_iff.mp H
 obtain ⟨⟨ae, ag, am, b9, ca⟩, A30, H⟩ := H
 replace H : ((spec_l02Host.f l0 b9 ca).bind fun ay => ((spec_l02Host.f l0 ay.2.1 ay.2.2).bind fun ar => ((spec_l01Next.f l0 ar.2.1 ar.2.2 16).bind fun au => (if au.1 = 0 then (some (65536, ag, am, ay.1, ar.1)) else (if au.1 = 1 then (some (ae, (-1), am, ay.1, ar.1)) else (if au.1 = 2 then (some (ae, ag, am, (-1), ar.1)) else (if au.1 = 3 then (some (ae, ag, am, ay.1, 4294967296)) else (if au.1 = 4 then ((spec_l01Next.f l0 au.2.1 au.2.2 2).bind fun aY => (if 0 ≤ (wrap64 (65507 + aY.1)) then (if (wrap64 (65507 + aY.1) : Int).toNat ≤ 281474976710656 then (some (ae, ag, (List.replicate (wrap64 (65507 + aY.1) : Int).toNat 0), ay.1, ar.1)) else (none)) else (none))) else (if au.1 = 5 then (some (65535, 65535, (([255, 255] : List Int)), ay.1, ar.1)) else (if au.1 = 6 then ((some (([0, 0] : List Int) : List Int)).bind fun aw => ((spec_EncodeUdp.f k ae ag aw ay.1 ar.1).bind fun aC => (if aC.2 = 0 then (if 6 < (aC.1.length : Int) then (if 7 < (aC.1.length : Int) then (some (ae, ag, (([rd aC.1 6, rd aC.1 7] : List Int)), ay.1, ar.1)) else (none)) else (none)) else (some (ae, ag, aw, ay.1, ar.1))))) else (if au.1 = 7 then ((some (([0, 0] : List Int) : List Int)).bind fun ax => ((spec_EncodeUdp.f k ae ag ax ay.1 ar.1).bind fun aD => (if aD.2 = 0 then (if 6 < (aD.1.length : Int) then (if 7 < (aD.1.length : Int) then (some (ae, ag, (([rd aD.1 6, rd aD.1 7] : List Int)), ay.1, ar.1)) else (none)) else (none)) else (some (ae, ag, ax, ay.1, ar.1))))) else (some (ae, ag, am, ay.1, ar.1))))))))))))) = some (r1, r2, r3, r4, r5) := H
 have A3 := Aside0.mk A30
 clear A30
 replace H := Option.bind_eq_some_iff.mp H
 obtain ⟨⟨av, cu, cv⟩, A40, H⟩ := H
 replace H : ((spec_l02Host.f l0 cu cv).bind fun ar => ((spec_l01Next.f l0 ar.2.1 ar.2.2 16).bind fun au => (if au.1 = 0 then (some (65536, ag, am, av, ar.1)) else (if au.1 = 1 then (some (ae, (-1), am, av, ar.1)) else (if au.1 = 2 then (some (ae, ag, am, (-1), ar.1)) else (if au.1 = 3 then (some (ae, ag, am, av, 4294967296)) else (if au.1 = 4 then ((spec_l01Next.f l0 au.2.1 au.2.2 2).bind fun aY => (if 0 ≤ (wrap64 (65507 + aY.1)) then (if (wrap64 (65507 + aY.1) : Int).toNat ≤ 281474976710656 then (some (ae, ag, (List.replicate (wrap64 (65507 + aY.1) : Int).toNat 0), av, ar.1)) else (none)) else (none))) else (if au.1 = 5 then (some (65535, 65535, (([255, 255] : List Int)), av, ar.1)) else (if au.1 = 6 then ((some (([0, 0] : List Int) : List Int)).bind fun aw => ((spec_EncodeUdp.f k ae ag aw av ar.1).bind fun aC => (if aC.2 = 0 then (if 6 < (aC.1.length : Int) then (if 7 < (aC.1.length : Int) then (some (ae, ag, (([rd aC.1 6, rd aC.1 7] : List Int)), av, ar.1)) else (none)) else (none)) else (some (ae, ag, aw, av, ar.1))))) else (if au.1 = 7 then ((some (([0, 0] : List Int) : List Int)).bind fun ax => ((spec_EncodeUdp.f k ae ag ax av ar.1).bind fun aD => (if aD.2 = 0 then (if 6 < (aD.1.length : Int) then (if 7 < (aD.1.length : Int) then (some (ae, ag, (([rd aD.1 6, rd aD.1 7] : List Int)), av, ar.1)) else (none)) else (none)) else (some (ae, ag, ax, av, ar.1))))) else (some (ae, ag, am, av, ar.1)))))))))))) = some (r1, r2, r3, r4, r5) := H
 have A4 := Aside0.mk A40
 clear A40
 replace H := Option.bind_eq_some_iff.mp H
 obtain ⟨⟨aG, cw, cx⟩, A50, H⟩ := H
 replace H : ((spec_l01Next.f l0 cw cx 16).bind fun au => (if au.1 = 0 then (some (65536, ag, am, av, aG)) else (if au.1 = 1 then (some (ae, (-1), am, av, aG)) else (if au.1 = 2 then (some (ae, ag, am, (-1), aG)) else (if au.1 = 3 then (some (ae, ag, am, av, 4294967296)) else (if au.1 = 4 then ((spec_l01Next.f l0 au.2.1 au.2.2 2).bind fun aY => (if 0 ≤ (wrap64 (65507 + aY.1)) then (if (wrap64 (65507 + aY.1) : Int).toNat ≤ 281474976710656 then (some (ae, ag, (List.replicate (wrap64 (65507 + aY.1) : Int).toNat 0), av, aG)) else (none)) else (none))) else (if au.1 = 5 then (some (65535, 65535, (([255, 255] : List Int)), av, aG)) else (if au.1 = 6 then ((some (([0, 0] : List Int) : List Int)).bind fun aw => ((spec_EncodeUdp.f k ae ag aw av aG).bind fun aC => (if aC.2 = 0 then (if 6 < (aC.1.length : Int) then (if 7 < (aC.1.length : Int) then (some (ae, ag, (([rd aC.1 6, rd aC.1 7] : List Int)), av, aG)) else (none)) else (none)) else (some (ae, ag, aw, av, aG))))) else (if au.1 = 7 then ((some (([0, 0] : List Int) : List Int)).bind fun ax => ((spec_EncodeUdp.f k ae ag ax av aG).bind fun aD => (if aD.2 = 0 then (if 6 < (aD.1.length : Int) then (if 7 < (aD.1.length : Int) then (some (ae, ag, (([rd aD.1 6, rd aD.1 7] : List Int)), av, aG)) else (none)) else (none)) else (some (ae, ag, ax, av, aG))))) else (some (ae, ag, am, av, aG))))))))))) = some (r1, r2, r3, r4, r5) := H
 have A5 := Aside0.mk A50
 clear A50
 replace H := Option.bind_eq_some_iff.mp H
 obtain ⟨⟨aH, bc, bd⟩, A60, H⟩ := H
 replace H : (if aH = 0 then (some (65536, ag, am, av, aG)) else (if aH = 1 then (some (ae, (-1), am, av, aG)) else (if aH = 2 then (some (ae, ag, am, (-1), aG)) else (if aH = 3 then (some (ae, ag, am, av, 4294967296)) else (if aH = 4 then ((spec_l01Next.f l0 bc bd 2).bind fun aY => (if 0 ≤ (wrap64 (65507 + aY.1)) then (if (wrap64 (65507 + aY.1) : Int).toNat ≤ 281474976710656 then (some (ae, ag, (List.replicate (wrap64 (65507 + aY.1) : Int).toNat 0), av, aG)) else (none)) else (none))) else (if aH = 5 then (some (65535, 65535, (([255, 255] : List Int)), av, aG)) else (if aH = 6 then ((some (([0, 0] : List Int) : List Int)).bind fun aw => ((spec_EncodeUdp.f k ae ag aw av aG).bind fun aC => (if aC.2 = 0 then (if 6 < (aC.1.length : Int) then (if 7 < (aC.1.length : Int) then (some (ae, ag, (([rd aC.1 6, rd aC.1 7] : List Int)), av, aG)) else (none)) else (none)) else (some (ae, ag, aw, av, aG))))) else (if aH = 7 then ((some (([0, 0] : List Int) : List Int)).bind fun ax => ((spec_EncodeUdp.f k ae ag ax av aG).bind fun aD => (if aD.2 = 0 then (if 6 < (aD.1.length : Int) then (if 7 < (aD.1.length : Int) then (some (ae, ag, (([rd aD.1 6, rd aD.1 7] : List Int)), av, aG)) else (none)) else (none)) else (some (ae, ag, ax, av, aG))))) else (some (ae, ag, am, av, aG)))))))))) = some (r1, r2, r3, r4, r5) := H
 have A6 := Aside0.mk A60
 clear A60
 go_enter Try.func14, Try.ntmps14
 go_upto_region 6 with (first | ((with_reducible refine gate_dst (N := 2) rfl ?_); refine box_event ?hg (N := 2) ?hd (cs := #[.int .i64 0, .int .i64 0, .slice none 0 0]) (t := 39) ?hr ?_; (case hd => rfl); (case hg => rfl); (case hr => first | (go_simp; done) | (go_simp; rfl)); intro ad hg dK hbox hb; have ac := Aside0.mk (hbox); have cZ := Aside0.mk ((by rw [hg]; exact (below_size wB) : w.heap.size ≤ ad)); replace HB := Aside0.mk (below_step wB hb); have az := cZ; clear hb hbox hg) | ((with_reducible refine gate_callee (f := 37) rfl ?_); refine goesL_ (some 12) rfl rfl Try.func37 (by kernel_rfl) rfl #[.slice A0 l0.length c0] rfl wT ?_; (with_reducible refine (spec_l01Begin.calls k _ _ l0 b0 b8 _ ?side1 ?side2 A2.out).mono ?_); (case side1 => exact Kd.C_below HR0.out wB); (case side2 => exact dJ.out); rintro e dL ⟨rfl, hb⟩; refine ⟨_, rfl, ?_⟩; replace ac := Aside0.mk (blk_below (Bh ac) hb); replace HB := Aside0.mk (below_step wB hb); (try clear hb); (try clear hb2); (try clear hk); (try clear hi)) | ((with_reducible refine gate_dst (N := 5) rfl ?_); refine box_event ?hg (N := 5) ?hd (cs := #[.slice none 0 0, .int .i64 0, .int .u64 0]) (t := 64) ?hr ?_; (case hd => rfl); (case hg => rfl); (case hr => first | (go_simp; done) | (go_simp; rfl)); intro aI hg ci hbox hb; have bq := Aside0.mk (hbox); have cP := Aside0.mk ((by rw [hg]; exact (below_size wB) : w.heap.size ≤ aI)); replace HB := Aside0.mk (below_step wB hb); have dM := cP; have a7 := Aside0.mk ((by rw [hg]; exact Nat.ne_of_lt (blk_lt (Bh ac)) : ad ≠ aI)); replace ac := Aside0.mk (blk_below (Bh ac) hb); have an := Aside0.mk a7.out.symm; clear hb hbox hg; have dD := an.out; have dE := a7.out; obtain ⟨⟨dh, di, dj⟩, dk, dl, dm⟩ := cells3 bq.out) | ((with_reducible refine gate_store (t := 64) (p := 5) rfl ?_); (try (rw [drewN_self ci]; generalize hq_ : World.drewN ci _ = ci; replace ac := Aside0.mk (blk_at hq_ ac.out); replace bq := Aside0.mk (blk_at hq_ bq.out); replace HB := Aside0.mk (below_at hq_ HB.out); clear hq_; (try (obtain ⟨⟨aR, aS, aT⟩, aU, aV, aW⟩ := cells3 ac.out)); (try (obtain ⟨⟨c1, da, db⟩, dc, dd, de⟩ := cells3 bq.out)))); refine store_event (t := 64) (p := 5) (v := ?_) (w1 := (((ci.setCell ⟨aI, 0, none⟩ (.slice A0 l0.length c0)).setCell ⟨aI, 1, none⟩ (.int .i64 b0)).setCell ⟨aI, 2, none⟩ (.int .u64 b8))) ?hg ?ho ?hn ?hr ?_; (case ho => rfl); (case hg => rfl); (case hn => rfl); (case hr => first | (go_simp; done) | (go_simp; rfl)); intro cj hw; have n0_ : Aside0 (cj.heap[ad]? = some (.cells #[.int .i64 0, .int .i64 0, .slice none 0 0] 39 (0, 0))) := ⟨(by rw [hw]; exact (by (with_reducible repeat (first | refine blk_drewN ?_ _ | refine blk_drew ?_ | refine blk_alloc ?_ _)); refine blk_far ?_ a7.out _; (with_reducible repeat (first | refine blk_drewN ?_ _ | refine blk_drew ?_ | refine blk_alloc ?_ _)); refine blk_far ?_ a7.out _; (with_reducible repeat (first | refine blk_drewN ?_ _ | refine blk_drew ?_ | refine blk_alloc ?_ _)); refine blk_far ?_ a7.out _; (with_reducible repeat (first | refine blk_drewN ?_ _ | refine blk_drew ?_ | refine blk_alloc ?_ _)); exact ac.out))⟩; have n1_ : Aside0 (cj.heap[aI]? = some (.cells #[.slice A0 l0.length c0, .int .i64 b0, .int .u64 b8] 64 (0, 0))) := ⟨(by rw [hw]; exact (by (with_reducible repeat (first | refine blk_drewN ?_ _ | refine blk_drew ?_ | refine blk_alloc ?_ _)); refine blk_put (cs := #[.slice A0 l0.length c0, .int .i64 b0, .int .u64 0]) ?_ 2 _ rfl; (with_reducible repeat (first | refine blk_drewN ?_ _ | refine blk_drew ?_ | refine blk_alloc ?_ _)); refine blk_put (cs := #[.slice A0 l0.length c0, .int .i64 0, .int .u64 0]) ?_ 1 _ rfl; (with_reducible repeat (first | refine blk_drewN ?_ _ | refine blk_drew ?_ | refine blk_alloc ?_ _)); refine blk_put (cs := #[.slice none 0 0, .int .i64 0, .int .u64 0]) ?_ 0 _ rfl; (with_reducible repeat (first | refine blk_drewN ?_ _ | refine blk_drew ?_ | refine blk_alloc ?_ _)); exact bq.out))⟩; have n2_ : Aside0 (Below w.heap.size w cj) := ⟨(by rw [hw]; exact wB)⟩; clear hw; clear ac; clear bq; clear HB; have ac := n0_; have bq := n1_; have HB := n2_; clear n0_ n1_ n2_; have aa := Aside0.mk (show IsS64 w cj aI l0 b0 b8 from ⟨_, _, by (with_reducible repeat (first | refine blk_drewN ?_ _ | refine blk_drew ?_ | refine blk_alloc ?_ _)); exact bq.out, cP.out, HR0.out⟩)) | ((with_reducible refine gate_callee (f := 38) rfl ?_); refine goesL_ (some 13) rfl rfl Try.func38 (by kernel_rfl) rfl #[.pointer (some ⟨aI, 0, none⟩)] rfl wT ?_; (with_reducible refine (spec_l10Datagram.calls k aI l0 b0 b8 ae ag am b9 ca w _ ?side1 ?side2 A3.out).mono ?_); (case side1 => repeat (first | (with_reducible first | exact aa.out | apply IsS64.alloc | apply IsS64.drewN | apply IsS64.drew | apply IsS64.set_1 | apply IsS64.set_2 | refine IsS64.far ?_ an.out _) | exact aa.out)); (case side2 => repeat (first | (with_reducible first | exact HB.out | apply below_alloc | apply pw_below_drewN | apply below_drew1 | refine below_set ?_ (IsS64.ge aa.out) | refine below_set ?_ az.out) | exact HB.out)); rintro e dN ⟨dQ, rfl, bj, hi, hb, hk⟩; refine ⟨_, rfl, ?_⟩; replace ac := Aside0.mk (KeepBut.blk hk (g' := ad) (o := .cells #[.int .i64 0, .int .i64 0, .slice none 0 0] 39 (0, 0)) (Bh ac) a7.out (by simp)); have af := Aside0.mk (Kd.R_lower bj (below_size (by repeat (first | (with_reducible first | exact HB.out | apply below_alloc | apply pw_below_drewN | apply below_drew1 | refine below_set ?_ (IsS64.ge aa.out) | refine below_set ?_ az.out) | exact HB.out)))); replace HB := Aside0.mk (hb); replace aa := Aside0.mk (hi); (try clear hb); (try clear hb2); (try clear hk); (try clear hi); (try clear bj)) | ((with_reducible refine gate_dst (N := 6) rfl ?_); refine box_event ?hg (N := 6) ?hd (cs := #[.int .i64 0, .int .i64 0, .slice none 0 0]) (t := 39) ?hr ?_; (case hd => rfl); (case hg => rfl); (case hr => first | (go_simp; done) | (go_simp; rfl)); intro aj hg ck hbox hb; have uB := below_pre (n := w.heap.size) (w := w) hb (by repeat (first | (with_reducible first | exact HB.out | apply below_alloc | apply pw_below_drewN | apply below_drew1 | refine below_set ?_ (IsS64.ge aa.out) | refine below_set ?_ az.out) | exact HB.out)); replace af := Aside0.mk (Kd.R_below (Rh af) hb); have ab := Aside0.mk (hbox); have df := Aside0.mk ((by rw [hg]; exact (below_size uB) : w.heap.size ≤ aj)); replace HB := Aside0.mk (below_step uB hb); have aF := df; have aJ := Aside0.mk ((by rw [hg]; exact Nat.ne_of_lt (blk_lt (Bh ac)) : ad ≠ aj)); replace ac := Aside0.mk (blk_below (Bh ac) hb); have ap := Aside0.mk aJ.out.symm; have ao := Aside0.mk ((by rw [hg]; exact Nat.ne_of_lt (IsS64.lt (show IsS64 w _ aI l0 b9 ca from by repeat (first | (with_reducible first | exact aa.out | apply IsS64.alloc | apply IsS64.drewN | apply IsS64.drew | apply IsS64.set_1 | apply IsS64.set_2 | refine IsS64.far ?_ an.out _) | exact aa.out))) : aI ≠ aj)); replace aa := Aside0.mk (IsS64.below (by repeat (first | (with_reducible first | exact aa.out | apply IsS64.alloc | apply IsS64.drewN | apply IsS64.drew | apply IsS64.set_1 | apply IsS64.set_2 | refine IsS64.far ?_ an.out _) | exact aa.out)) hb); have bo := Aside0.mk ao.out.symm; clear uB; clear hb hbox hg; have dF := ap.out; have dG := aJ.out; have dH := bo.out; have dI := ao.out; obtain ⟨⟨dn, dp, dq⟩, dr, dt, du⟩ := cells3 ab.out; obtain ⟨ak, al, cU⟩ := Kd.R_slice af.out; subst cU) | ((with_reducible refine gate_store (t := 39) (p := 6) rfl ?_); (try (rw [drewN_self ck]; generalize hq_ : World.drewN ck _ = ck; replace af := Aside0.mk (Kd.R_at hq_ af.out); replace ac := Aside0.mk (blk_at hq_ ac.out); replace ab := Aside0.mk (blk_at hq_ ab.out); replace aa := Aside0.mk (IsS64.at_ hq_ aa.out); replace HB := Aside0.mk (below_at hq_ HB.out); clear hq_; (try (obtain ⟨⟨aR, aS, aT⟩, aU, aV, aW⟩ := cells3 ac.out)); (try (obtain ⟨⟨aZ, a0, a1⟩, a2, a3, a4⟩ := cells3 ab.out)))); refine store_event (t := 39) (p := 6) (v := ?_) (w1 := (((ck.setCell ⟨aj, 0, none⟩ (.int .i64 ae)).setCell ⟨aj, 1, none⟩ (.int .i64 ag)).setCell ⟨aj, 2, none⟩ (.slice ak am.length al))) ?hg ?ho ?hn ?hr ?_; (case ho => rfl); (case hg => rfl); (case hn => rfl); (case hr => first | (go_simp; done) | (go_simp; rfl)); intro b1 hw; have n0_ : Aside0 (Kd.R (Kd.int .u8) 5 b1 w.heap.size (fun _ => True) (.slice ak am.length al) am) := ⟨(by rw [hw]; exact (by (with_reducible repeat (first | apply Kd.R_alloc | apply Kd.R_drewN | apply Kd.R_drew)); exact Kd.R_mono (Kd.R_far (p := ⟨aj, 2, none⟩) (Kd.R_far (p := ⟨aj, 1, none⟩) (Kd.R_far (p := ⟨aj, 0, none⟩) (Kd.R_types af.out ab.out (by decide)) (fun _ hk => hk.2) (.int .i64 ae)) (fun _ hk => hk.2) (.int .i64 ag)) (fun _ hk => hk.2) (.slice ak am.length al)) (fun _ hk => trivial)))⟩; have n1_ : Aside0 (b1.heap[ad]? = some (.cells #[.int .i64 0, .int .i64 0, .slice none 0 0] 39 (0, 0))) := ⟨(by rw [hw]; exact (by (with_reducible repeat (first | refine blk_drewN ?_ _ | refine blk_drew ?_ | refine blk_alloc ?_ _)); refine blk_far ?_ aJ.out _; (with_reducible repeat (first | refine blk_drewN ?_ _ | refine blk_drew ?_ | refine blk_alloc ?_ _)); refine blk_far ?_ aJ.out _; (with_reducible repeat (first | refine blk_drewN ?_ _ | refine blk_drew ?_ | refine blk_alloc ?_ _)); refine blk_far ?_ aJ.out _; (with_reducible repeat (first | refine blk_drewN ?_ _ | refine blk_drew ?_ | refine blk_alloc ?_ _)); exact ac.out))⟩; have n2_ : Aside0 (b1.heap[aj]? = some (.cells #[.int .i64 ae, .int .i64 ag, .slice ak am.length al] 39 (0, 0))) := ⟨(by rw [hw]; exact (by (with_reducible repeat (first | refine blk_drewN ?_ _ | refine blk_drew ?_ | refine blk_alloc ?_ _)); refine blk_put (cs := #[.int .i64 ae, .int .i64 ag, .slice none 0 0]) ?_ 2 _ rfl; (with_reducible repeat (first | refine blk_drewN ?_ _ | refine blk_drew ?_ | refine blk_alloc ?_ _)); refine blk_put (cs := #[.int .i64 ae, .int .i64 0, .slice none 0 0]) ?_ 1 _ rfl; (with_reducible repeat (first | refine blk_drewN ?_ _ | refine blk_drew ?_ | refine blk_alloc ?_ _)); refine blk_put (cs := #[.int .i64 0, .int .i64 0, .slice none 0 0]) ?_ 0 _ rfl; (with_reducible repeat (first | refine blk_drewN ?_ _ | refine blk_drew ?_ | refine blk_alloc ?_ _)); exact ab.out))⟩; have n3_ : Aside0 (IsS64 w b1 aI l0 b9 ca) := ⟨(by rw [hw]; exact (by repeat (first | (with_reducible first | exact aa.out | apply IsS64.alloc | apply IsS64.drewN | apply IsS64.drew | apply IsS64.set_1 | apply IsS64.set_2 | refine IsS64.far ?_ an.out _ | refine IsS64.far ?_ ao.out _) | exact aa.out)))⟩; have n4_ : Aside0 (Below w.heap.size w b1) := ⟨(by rw [hw]; exact (by repeat (first | (with_reducible first | exact HB.out | apply below_alloc | apply pw_below_drewN | apply below_drew1 | refine below_set ?_ (IsS64.ge aa.out) | refine below_set ?_ az.out | refine below_set ?_ aF.out) | exact HB.out)))⟩; clear hw; clear af; clear ac; clear ab; clear aa; clear HB; have af := n0_; have ac := n1_; have ab := n2_; have aa := n3_; have HB := n4_; clear n0_ n1_ n2_ n3_ n4_) | ((with_reducible refine gate_callee (f := 39) rfl ?_); refine goesL_ (some 14) rfl rfl Try.func39 (by kernel_rfl) rfl #[.pointer (some ⟨aI, 0, none⟩)] rfl wT ?_; (with_reducible refine (spec_l02Host.calls aI l0 b9 ca av cu cv w _ ?side1 ?side2 A4.out).mono ?_); (case side1 => repeat (first | (with_reducible first | exact aa.out | apply IsS64.alloc | apply IsS64.drewN | apply IsS64.drew | apply IsS64.set_1 | apply IsS64.set_2 | refine IsS64.far ?_ an.out _ | refine IsS64.far ?_ ao.out _) | exact aa.out)); (case side2 => repeat (first | (with_reducible first | exact HB.out | apply below_alloc | apply pw_below_drewN | apply below_drew1 | refine below_set ?_ (IsS64.ge aa.out) | refine below_set ?_ az.out | refine below_set ?_ aF.out) | exact HB.out)); rintro e dO ⟨rfl, hi, hb, hk⟩; refine ⟨_, rfl, ?_⟩; replace ac := Aside0.mk (KeepBut.blk hk (g' := ad) (o := .cells #[.int .i64 0, .int .i64 0, .slice none 0 0] 39 (0, 0)) (Bh ac) a7.out (by simp)); replace af := Aside0.mk (Kd.R_mono (Kd.R_keep (IsS64.apart (show IsS64 w _ aI l0 b9 ca from by repeat (first | (with_reducible first | exact aa.out | apply IsS64.alloc | apply IsS64.drewN | apply IsS64.drew | apply IsS64.set_1 | apply IsS64.set_2 | refine IsS64.far ?_ an.out _ | refine IsS64.far ?_ ao.out _) | exact aa.out)) (Rh af) (by decide)) hk (fun _ h => h.2)) (fun _ h => h.1)); replace ab := Aside0.mk (KeepBut.blk hk (g' := aj) (o := .cells #[.int .i64 ae, .int .i64 ag, .slice ak am.length al] 39 (0, 0)) (Bh ab) bo.out (by simp)); replace HB := Aside0.mk (hb); replace aa := Aside0.mk (hi); (try clear hb); (try clear hb2); (try clear hk); (try clear hi)) | ((with_reducible refine gate_callee (f := 39) rfl ?_); refine goesL_ (some 15) rfl rfl Try.func39 (by kernel_rfl) rfl #[.pointer (some ⟨aI, 0, none⟩)] rfl wT ?_; (with_reducible refine (spec_l02Host.calls aI l0 cu cv aG cw cx w _ ?side1 ?side2 A5.out).mono ?_); (case side1 => repeat (first | (with_reducible first | exact aa.out | apply IsS64.alloc | apply IsS64.drewN | apply IsS64.drew | apply IsS64.set_1 | apply IsS64.set_2 | refine IsS64.far ?_ an.out _ | refine IsS64.far ?_ ao.out _) | exact aa.out)); (case side2 => repeat (first | (with_reducible first | exact HB.out | apply below_alloc | apply pw_below_drewN | apply below_drew1 | refine below_set ?_ (IsS64.ge aa.out) | refine below_set ?_ az.out | refine below_set ?_ aF.out) | exact HB.out)); rintro e dP ⟨rfl, hi, hb, hk⟩; refine ⟨_, rfl, ?_⟩; replace ac := Aside0.mk (KeepBut.blk hk (g' := ad) (o := .cells #[.int .i64 0, .int .i64 0, .slice none 0 0] 39 (0, 0)) (Bh ac) a7.out (by simp)); replace af := Aside0.mk (Kd.R_mono (Kd.R_keep (IsS64.apart (show IsS64 w _ aI l0 cu cv from by repeat (first | (with_reducible first | exact aa.out | apply IsS64.alloc | apply IsS64.drewN | apply IsS64.drew | apply IsS64.set_1 | apply IsS64.set_2 | refine IsS64.far ?_ an.out _ | refine IsS64.far ?_ ao.out _) | exact aa.out)) (Rh af) (by decide)) hk (fun _ h => h.2)) (fun _ h => h.1)); replace ab := Aside0.mk (KeepBut.blk hk (g' := aj) (o := .cells #[.int .i64 ae, .int .i64 ag, .slice ak am.length al] 39 (0, 0)) (Bh ab) bo.out (by simp)); replace HB := Aside0.mk (hb); replace aa := Aside0.mk (hi); (try clear hb); (try clear hb2); (try clear hk); (try clear hi)) | ((with_reducible refine gate_callee (f := 40) rfl ?_); refine goesL_ (some 16) rfl rfl Try.func40 (by kernel_rfl) rfl #[.pointer (some ⟨aI, 0, none⟩), .int .i64 16] rfl wT ?_; (with_reducible refine (spec_l01Next.calls aI l0 cw cx 16 aH bc bd w _ ?side1 ?side2 A6.out).mono ?_); (case side1 => repeat (first | (with_reducible first | exact aa.out | apply IsS64.alloc | apply IsS64.drewN | apply IsS64.drew | apply IsS64.set_1 | apply IsS64.set_2 | refine IsS64.far ?_ an.out _ | refine IsS64.far ?_ ao.out _) | exact aa.out)); (case side2 => repeat (first | (with_reducible first | exact HB.out | apply below_alloc | apply pw_below_drewN | apply below_drew1 | refine below_set ?_ (IsS64.ge aa.out) | refine below_set ?_ az.out | refine below_set ?_ aF.out) | exact HB.out)); rintro e a9 ⟨rfl, hi, hb, hk⟩; refine ⟨_, rfl, ?_⟩; replace ac := Aside0.mk (KeepBut.blk hk (g' := ad) (o := .cells #[.int .i64 0, .int .i64 0, .slice none 0 0] 39 (0, 0)) (Bh ac) a7.out (by simp)); replace af := Aside0.mk (Kd.R_mono (Kd.R_keep (IsS64.apart (show IsS64 w _ aI l0 cw cx from by repeat (first | (with_reducible first | exact aa.out | apply IsS64.alloc | apply IsS64.drewN | apply IsS64.drew | apply IsS64.set_1 | apply IsS64.set_2 | refine IsS64.far ?_ an.out _ | refine IsS64.far ?_ ao.out _) | exact aa.out)) (Rh af) (by decide)) hk (fun _ h => h.2)) (fun _ h => h.1)); replace ab := Aside0.mk (KeepBut.blk hk (g' := aj) (o := .cells #[.int .i64 ae, .int .i64 ag, .slice ak am.length al] 39 (0, 0)) (Bh ab) bo.out (by simp)); replace HB := Aside0.mk (hb); replace aa := Aside0.mk (hi); (try clear hb); (try clear hb2); (try clear hk); (try clear hi)))
 (try simp only [Act.put, List.setIfInBounds_toArray, List.set_cons_zero, List.set_cons_succ])
 by_cases c7 : aH = 0
 rw [if_pos c7] at H
 have c7b0 : (aH == 0) = true := beq_iff_eq.mpr c7
 have c7b1 : (aH != 0) = false := bne_eq_false_iff_eq.mpr c7
 clear c7
 simp only [Option.some.injEq, Prod.mk.injEq] at H
 obtain ⟨rfl, rfl, rfl, rfl, rfl⟩ := H
 rotate_left
 rw [if_neg c7] at H
 have c7b0 : (aH == 0) = false := beq_eq_false_iff_ne.mpr c7
 have c7b1 : (aH != 0) = true := bne_iff_ne.mpr c7
 by_cases c8 : aH = 1
 rw [if_pos c8] at H
 have c8b0 : (aH == 1) = true := beq_iff_eq.mpr c8
 have c8b1 : (aH != 1) = false := bne_eq_false_iff_eq.mpr c8
 clear c8
 simp only [Option.some.injEq, Prod.mk.injEq] at H
 obtain ⟨rfl, rfl, rfl, rfl, rfl⟩ := H
 rotate_left
 rw [if_neg c8] at H
 have c8b0 : (aH == 1) = false := beq_eq_false_iff_ne.mpr c8
 have c8b1 : (aH != 1) = true := bne_iff_ne.mpr c8
 by_cases c9 : aH = 2
 rw [if_pos c9] at H
 have c9b0 : (aH == 2) = true := beq_iff_eq.mpr c9
 have c9b1 : (aH != 2) = false := bne_eq_false_iff_eq.mpr c9
 clear c9
 simp only [Option.some.injEq, Prod.mk.injEq] at H
 obtain ⟨rfl, rfl, rfl, rfl, rfl⟩ := H
 rotate_left
 rw [if_neg c9] at H
 have c9b0 : (aH == 2) = false := beq_eq_false_iff_ne.mpr c9
 have c9b1 : (aH != 2) = true := bne_iff_ne.mpr c9
 by_cases cm : aH = 3
 rw [if_pos cm] at H
 have c10b0 : (aH == 3) = true := beq_iff_eq.mpr cm
 have c10b1 : (aH != 3) = false := bne_eq_false_iff_eq.mpr cm
 clear cm
 simp only [Option.some.injEq, Prod.mk.injEq] at H
 obtain ⟨rfl, rfl, rfl, rfl, rfl⟩ := H
 rotate_left
 rw [if_neg cm] at H
 have c10b0 : (aH == 3) = false := beq_eq_false_iff_ne.mpr cm
 have c10b1 : (aH != 3) = true := bne_iff_ne.mpr cm
 by_cases cn : aH = 4
 rw [if_pos cn] at H
 have c11b0 : (aH == 4) = true := beq_iff_eq.mpr cn
 have c11b1 : (aH != 4) = false := bne_eq_false_iff_eq.mpr cn
 clear cn
 replace H := Option.bind_eq_some_iff.mp H
 obtain ⟨⟨cb, cV, cW⟩, A120, H⟩ := H
 replace H : (if 0 ≤ (wrap64 (65507 + cb)) then (if (wrap64 (65507 + cb) : Int).toNat ≤ 281474976710656 then (some (ae, ag, (List.replicate (wrap64 (65507 + cb) : Int).toNat 0), av, aG)) else (none)) else (none)) = some (r1, r2, r3, r4, r5) := H
 have A12 := Aside0.mk A120
 clear A120
 obtain ⟨bp, hji13⟩ : ∃ j_ : Int, (wrap64 (65507 + cb)) = j_ := ⟨_, rfl⟩
 replace H : (if 0 ≤ (bp) then (if (bp : Int).toNat ≤ 281474976710656 then (some (ae, ag, (List.replicate (bp : Int).toNat 0), av, aG)) else (none)) else (none)) = some (r1, r2, r3, r4, r5) := by first | (rw [hji13] at H; exact H) | (simp only [hji13] at H ⊢; exact H)
 (try rw [hji13] at A2)
 (try rw [hji13] at A3)
 (try rw [hji13] at A4)
 (try rw [hji13] at A5)
 (try rw [hji13] at A6)
 (try rw [hji13] at A12)
 have hji13w : (IntKind.i64.wrap (65507 + cb)) = bp := (i64_w _).trans hji13
 by_cases cA : 0 ≤ (bp)
 rw [if_pos cA] at H
 have c14b0 := eq_true cA
 have c14b1 : decide (0 ≤ (bp)) = true := decide_eq_true cA
 clear cA
 by_cases cB : (bp : Int).toNat ≤ 281474976710656
 rw [if_pos cB] at H
 have c15b0 := eq_true cB
 have c15b1 : decide ((bp : Int).toNat ≤ 281474976710656) = true := decide_eq_true cB
 clear cB
 obtain ⟨bn, b2⟩ : ∃ y_ : List Int, y_ = (List.replicate (bp : Int).toNat 0) := ⟨_, rfl⟩
 replace H : (some (ae, ag, bn, av, aG)) = some (r1, r2, r3, r4, r5) := by first | (rw [b2]; with_reducible exact H) | (have H2_ := (Option.bind_some _ _).symm.trans H; rw [b2]; with_reducible exact H2_) | (have H2_ := (Option.bind_some _ _).symm.trans H; with_reducible exact H2_) | with_reducible exact H | (rw [b2]; exact H) | exact H
 have Ny273 := Aside0.mk b2
 clear b2
 simp only [Option.some.injEq, Prod.mk.injEq] at H
 obtain ⟨rfl, rfl, rfl, rfl, rfl⟩ := H
 rotate_left
 rw [if_neg cB] at H
 exact absurd H (by simp)
 rw [if_neg cA] at H
 exact absurd H (by simp)
 rw [if_neg cn] at H
 have c11b0 : (aH == 4) = false := beq_eq_false_iff_ne.mpr cn
 have c11b1 : (aH != 4) = true := bne_iff_ne.mpr cn
 by_cases co : aH = 5
 rw [if_pos co] at H
 have c16b0 : (aH == 5) = true := beq_iff_eq.mpr co
 have c16b1 : (aH != 5) = false := bne_eq_false_iff_eq.mpr co
 clear co
 obtain ⟨bf, b3⟩ : ∃ y_ : List Int, y_ = (([255, 255] : List Int)) := ⟨_, rfl⟩
 replace H : (some (65535, 65535, bf, av, aG)) = some (r1, r2, r3, r4, r5) := by first | (rw [b3]; with_reducible exact H) | (have H2_ := (Option.bind_some _ _).symm.trans H; rw [b3]; with_reducible exact H2_) | (have H2_ := (Option.bind_some _ _).symm.trans H; with_reducible exact H2_) | with_reducible exact H | (rw [b3]; exact H) | exact H
 have Ny276 := Aside0.mk b3
 clear b3
 simp only [Option.some.injEq, Prod.mk.injEq] at H
 obtain ⟨rfl, rfl, rfl, rfl, rfl⟩ := H
 rotate_left
 rw [if_neg co] at H
 have c16b0 : (aH == 5) = false := beq_eq_false_iff_ne.mpr co
 have c16b1 : (aH != 5) = true := bne_iff_ne.mpr co
 by_cases cp : aH = 6
 rw [if_pos cp] at H
 have c17b0 : (aH == 6) = true := beq_iff_eq.mpr cp
 have c17b1 : (aH != 6) = false := bne_eq_false_iff_eq.mpr cp
 clear cp
 obtain ⟨aw, b4⟩ : ∃ y_ : List Int, y_ = (([0, 0] : List Int)) := ⟨_, rfl⟩
 replace H : ((spec_EncodeUdp.f k ae ag aw av aG).bind fun aC => (if aC.2 = 0 then (if 6 < (aC.1.length : Int) then (if 7 < (aC.1.length : Int) then (some (ae, ag, (([rd aC.1 6, rd aC.1 7] : List Int)), av, aG)) else (none)) else (none)) else (some (ae, ag, aw, av, aG)))) = some (r1, r2, r3, r4, r5) := by first | (rw [b4]; with_reducible exact H) | (have H2_ := (Option.bind_some _ _).symm.trans H; rw [b4]; with_reducible exact H2_) | (have H2_ := (Option.bind_some _ _).symm.trans H; with_reducible exact H2_) | with_reducible exact H | (rw [b4]; exact H) | exact H
 have Ny279 := Aside0.mk b4
 clear b4
 replace H := Option.bind_eq_some_iff.mp H
 obtain ⟨⟨aP, bD⟩, A180, H⟩ := H
 replace H : (if bD = 0 then (if 6 < (aP.length : Int) then (if 7 < (aP.length : Int) then (some (ae, ag, (([rd aP 6, rd aP 7] : List Int)), av, aG)) else (none)) else (none)) else (some (ae, ag, aw, av, aG))) = some (r1, r2, r3, r4, r5) := H
 have A18 := Aside0.mk A180
 clear A180
 by_cases cq : bD = 0
 rw [if_pos cq] at H
 have c19b0 : (bD == 0) = true := beq_iff_eq.mpr cq
 have c19b1 : (bD != 0) = false := bne_eq_false_iff_eq.mpr cq
 clear cq
 by_cases cQ : 6 < (aP.length : Int)
 rw [if_pos cQ] at H
 have c20b0 : decide (6 < (aP.length : Int)) = true := decide_eq_true cQ
 have c20b1 : decide (6 < aP.length) = true := decide_eq_true (by omega)
 clear cQ
 by_cases cR : 7 < (aP.length : Int)
 rw [if_pos cR] at H
 have c21b0 : decide (7 < (aP.length : Int)) = true := decide_eq_true cR
 have c21b1 : decide (7 < aP.length) = true := decide_eq_true (by omega)
 clear cR
 obtain ⟨ba, b5⟩ : ∃ y_ : List Int, y_ = (([rd aP 6, rd aP 7] : List Int)) := ⟨_, rfl⟩
 replace H : (some (ae, ag, ba, av, aG)) = some (r1, r2, r3, r4, r5) := by first | (rw [b5]; with_reducible exact H) | (have H2_ := (Option.bind_some _ _).symm.trans H; rw [b5]; with_reducible exact H2_) | (have H2_ := (Option.bind_some _ _).symm.trans H; with_reducible exact H2_) | with_reducible exact H | (rw [b5]; exact H) | exact H
 have Ny288 := Aside0.mk b5
 clear b5
 simp only [Option.some.injEq, Prod.mk.injEq] at H
 obtain ⟨rfl, rfl, rfl, rfl, rfl⟩ := H
 rotate_left
 rw [if_neg cR] at H
 exact absurd H (by simp)
 rw [if_neg cQ] at H
 exact absurd H (by simp)
 rw [if_neg cq] at H
 have c19b0 : (bD == 0) = false := beq_eq_false_iff_ne.mpr cq
 have c19b1 : (bD != 0) = true := bne_iff_ne.mpr cq
 simp only [Option.some.injEq, Prod.mk.injEq] at H
 obtain ⟨rfl, rfl, rfl, rfl, rfl⟩ := H
 rotate_left
 rw [if_neg cp] at H
 have c17b0 : (aH == 6) = false := beq_eq_false_iff_ne.mpr cp
 have c17b1 : (aH != 6) = true := bne_iff_ne.mpr cp
 by_cases cr : aH = 7
 rw [if_pos cr] at H
 have c22b0 : (aH == 7) = true := beq_iff_eq.mpr cr
 have c22b1 : (aH != 7) = false := bne_eq_false_iff_eq.mpr cr
 clear cr
 obtain ⟨ax, b6⟩ : ∃ y_ : List Int, y_ = (([0, 0] : List Int)) := ⟨_, rfl⟩
 replace H : ((spec_EncodeUdp.f k ae ag ax av aG).bind fun aD => (if aD.2 = 0 then (if 6 < (aD.1.length : Int) then (if 7 < (aD.1.length : Int) then (some (ae, ag, (([rd aD.1 6, rd aD.1 7] : List Int)), av, aG)) else (none)) else (none)) else (some (ae, ag, ax, av, aG)))) = some (r1, r2, r3, r4, r5) := by first | (rw [b6]; with_reducible exact H) | (have H2_ := (Option.bind_some _ _).symm.trans H; rw [b6]; with_reducible exact H2_) | (have H2_ := (Option.bind_some _ _).symm.trans H; with_reducible exact H2_) | with_reducible exact H | (rw [b6]; exact H) | exact H
 have Ny291 := Aside0.mk b6
 clear b6
 replace H := Option.bind_eq_some_iff.mp H
 obtain ⟨⟨aQ, bE⟩, A230, H⟩ := H
 replace H : (if bE = 0 then (if 6 < (aQ.length : Int) then (if 7 < (aQ.length : Int) then (some (ae, ag, (([rd aQ 6, rd aQ 7] : List Int)), av, aG)) else (none)) else (none)) else (some (ae, ag, ax, av, aG))) = some (r1, r2, r3, r4, r5) := H
 have A23 := Aside0.mk A230
 clear A230
 by_cases ct : bE = 0
 rw [if_pos ct] at H
 have c24b0 : (bE == 0) = true := beq_iff_eq.mpr ct
 have c24b1 : (bE != 0) = false := bne_eq_false_iff_eq.mpr ct
 clear ct
 by_cases cS : 6 < (aQ.length : Int)
 rw [if_pos cS] at H
 have c25b0 : decide (6 < (aQ.length : Int)) = true := decide_eq_true cS
 have c25b1 : decide (6 < aQ.length) = true := decide_eq_true (by omega)
 clear cS
 by_cases cT : 7 < (aQ.length : Int)
 rw [if_pos cT] at H
 have c26b0 : decide (7 < (aQ.length : Int)) = true := decide_eq_true cT
 have c26b1 : decide (7 < aQ.length) = true := decide_eq_true (by omega)
 clear cT
 obtain ⟨bb, b7⟩ : ∃ y_ : List Int, y_ = (([rd aQ 6, rd aQ 7] : List Int)) := ⟨_, rfl⟩
 replace H : (some (ae, ag, bb, av, aG)) = some (r1, r2, r3, r4, r5) := by first | (rw [b7]; with_reducible exact H) | (have H2_ := (Option.bind_some _ _).symm.trans H; rw [b7]; with_reducible exact H2_) | (have H2_ := (Option.bind_some _ _).symm.trans H; with_reducible exact H2_) | with_reducible exact H | (rw [b7]; exact H) | exact H
 have Ny300 := Aside0.mk b7
 clear b7
 simp only [Option.some.injEq, Prod.mk.injEq] at H
 obtain ⟨rfl, rfl, rfl, rfl, rfl⟩ := H
 rotate_left
 rw [if_neg cT] at H
 exact absurd H (by simp)
 rw [if_neg cS] at H
 exact absurd H (by simp)
 rw [if_neg ct] at H
 have c24b0 : (bE == 0) = false := beq_eq_false_iff_ne.mpr ct
 have c24b1 : (bE != 0) = true := bne_iff_ne.mpr ct
 simp only [Option.some.injEq, Prod.mk.injEq] at H
 obtain ⟨rfl, rfl, rfl, rfl, rfl⟩ := H
 rotate_left
 rw [if_neg cr] at H
 have c22b0 : (aH == 7) = false := beq_eq_false_iff_ne.mpr cr
 have c22b1 : (aH != 7) = true := bne_iff_ne.mpr cr
 simp only [Option.some.injEq, Prod.mk.injEq] at H
 obtain ⟨rfl, rfl, rfl, rfl, rfl⟩ := H
 rotate_left
 {
 obtain ⟨⟨bF, bG, bH⟩, bI, bJ, bK⟩ := cells3 ab.out; obtain ⟨⟨bL, bM, bN⟩, bO, bP, bQ⟩ := cells3 ac.out
 go_wp2_with (first | ((with_reducible refine gate_store (t := 39) (p := 2) rfl ?_); (try (rw [drewN_self a9]; generalize hq_ : World.drewN a9 _ = a9; replace af := Aside0.mk (Kd.R_at hq_ af.out); replace ac := Aside0.mk (blk_at hq_ ac.out); replace ab := Aside0.mk (blk_at hq_ ab.out); replace aa := Aside0.mk (IsS64.at_ hq_ aa.out); replace HB := Aside0.mk (below_at hq_ HB.out); clear hq_; (try (obtain ⟨⟨aR, aS, aT⟩, aU, aV, aW⟩ := cells3 ac.out)); (try (obtain ⟨⟨aZ, a0, a1⟩, a2, a3, a4⟩ := cells3 ab.out)))); refine store_event (t := 39) (p := 2) (v := ?_) (w1 := ((((a9.setCell ⟨aj, 0, none⟩ (.int .i64 65536)).setCell ⟨ad, 0, none⟩ (.int .i64 65536)).setCell ⟨ad, 1, none⟩ (.int .i64 ag)).setCell ⟨ad, 2, none⟩ (.slice ak am.length al))) ?hg ?ho ?hn ?hr ?_; (case ho => rfl); (case hg => rfl); (case hn => rfl); (case hr => first | (go_simp; done) | (go_simp; rfl)); intro a5 hw; have n0_ : Aside0 (Kd.R (Kd.int .u8) 5 a5 w.heap.size (fun _ => True) (.slice ak am.length al) am) := ⟨(by rw [hw]; exact (by (with_reducible repeat (first | apply Kd.R_alloc | apply Kd.R_drewN | apply Kd.R_drew)); exact Kd.R_mono (Kd.R_far (p := ⟨ad, 2, none⟩) (Kd.R_far (p := ⟨ad, 1, none⟩) (Kd.R_far (p := ⟨ad, 0, none⟩) (Kd.R_far (p := ⟨aj, 0, none⟩) (Kd.R_types (Kd.R_types af.out ab.out (by decide)) ac.out (by decide)) (fun _ hk => hk.1.2) (.int .i64 65536)) (fun _ hk => hk.2) (.int .i64 65536)) (fun _ hk => hk.2) (.int .i64 ag)) (fun _ hk => hk.2) (.slice ak am.length al)) (fun _ hk => trivial)))⟩; have n1_ : Aside0 (a5.heap[ad]? = some (.cells #[.int .i64 65536, .int .i64 ag, .slice ak am.length al] 39 (0, 0))) := ⟨(by rw [hw]; exact (by (with_reducible repeat (first | refine blk_drewN ?_ _ | refine blk_drew ?_ | refine blk_alloc ?_ _)); refine blk_put (cs := #[.int .i64 65536, .int .i64 ag, .slice none 0 0]) ?_ 2 _ rfl; (with_reducible repeat (first | refine blk_drewN ?_ _ | refine blk_drew ?_ | refine blk_alloc ?_ _)); refine blk_put (cs := #[.int .i64 65536, .int .i64 0, .slice none 0 0]) ?_ 1 _ rfl; (with_reducible repeat (first | refine blk_drewN ?_ _ | refine blk_drew ?_ | refine blk_alloc ?_ _)); refine blk_put (cs := #[.int .i64 0, .int .i64 0, .slice none 0 0]) ?_ 0 _ rfl; (with_reducible repeat (first | refine blk_drewN ?_ _ | refine blk_drew ?_ | refine blk_alloc ?_ _)); refine blk_far ?_ aJ.out _; (with_reducible repeat (first | refine blk_drewN ?_ _ | refine blk_drew ?_ | refine blk_alloc ?_ _)); exact ac.out))⟩; have n2_ : Aside0 (a5.heap[aj]? = some (.cells #[.int .i64 65536, .int .i64 ag, .slice ak am.length al] 39 (0, 0))) := ⟨(by rw [hw]; exact (by (with_reducible repeat (first | refine blk_drewN ?_ _ | refine blk_drew ?_ | refine blk_alloc ?_ _)); refine blk_far ?_ ap.out _; (with_reducible repeat (first | refine blk_drewN ?_ _ | refine blk_drew ?_ | refine blk_alloc ?_ _)); refine blk_far ?_ ap.out _; (with_reducible repeat (first | refine blk_drewN ?_ _ | refine blk_drew ?_ | refine blk_alloc ?_ _)); refine blk_far ?_ ap.out _; (with_reducible repeat (first | refine blk_drewN ?_ _ | refine blk_drew ?_ | refine blk_alloc ?_ _)); refine blk_put (cs := #[.int .i64 ae, .int .i64 ag, .slice ak am.length al]) ?_ 0 _ rfl; (with_reducible repeat (first | refine blk_drewN ?_ _ | refine blk_drew ?_ | refine blk_alloc ?_ _)); exact ab.out))⟩; have n3_ : Aside0 (IsS64 w a5 aI l0 bc bd) := ⟨(by rw [hw]; exact (by repeat (first | (with_reducible first | exact aa.out | apply IsS64.alloc | apply IsS64.drewN | apply IsS64.drew | apply IsS64.set_1 | apply IsS64.set_2 | refine IsS64.far ?_ an.out _ | refine IsS64.far ?_ ao.out _) | exact aa.out)))⟩; have n4_ : Aside0 (Below w.heap.size w a5) := ⟨(by rw [hw]; exact (by repeat (first | (with_reducible first | exact HB.out | apply below_alloc | apply pw_below_drewN | apply below_drew1 | refine below_set ?_ (IsS64.ge aa.out) | refine below_set ?_ az.out | refine below_set ?_ aF.out) | exact HB.out)))⟩; clear hw; clear af; clear ac; clear ab; clear aa; clear HB; have af := n0_; have ac := n1_; have ab := n2_; have aa := n3_; have HB := n4_; clear n0_ n1_ n2_ n3_ n4_))
 refine bodyPost_ret (results_ctt rfl _ _ ad 39 #[.int .i64 65536, .int .i64 ag, .slice ak am.length al] (0, 0) _ rfl (Bh ac) Try.underlying39 rfl (by kernel_rfl)) rfl ?_
 exact ⟨_, by first | rfl | (simp [errW_none, errW_some] <;> rfl) | (simp [*, errW_none, errW_some] <;> rfl), by (with_reducible repeat (first | apply Kd.R_alloc | apply Kd.R_drewN | apply Kd.R_drew)); exact af.out, by repeat (first | (with_reducible first | exact HB.out | apply below_alloc | apply pw_below_drewN | apply below_drew1 | refine below_set ?_ (IsS64.ge aa.out) | refine below_set ?_ az.out | refine below_set ?_ aF.out) | exact HB.out)⟩
 }
 {
 obtain ⟨⟨bF, bG, bH⟩, bI, bJ, bK⟩ := cells3 ab.out; obtain ⟨⟨bL, bM, bN⟩, bO, bP, bQ⟩ := cells3 ac.out
 go_wp2_with (first | ((with_reducible refine gate_store (t := 39) (p := 2) rfl ?_); (try (rw [drewN_self a9]; generalize hq_ : World.drewN a9 _ = a9; replace af := Aside0.mk (Kd.R_at hq_ af.out); replace ac := Aside0.mk (blk_at hq_ ac.out); replace ab := Aside0.mk (blk_at hq_ ab.out); replace aa := Aside0.mk (IsS64.at_ hq_ aa.out); replace HB := Aside0.mk (below_at hq_ HB.out); clear hq_; (try (obtain ⟨⟨aR, aS, aT⟩, aU, aV, aW⟩ := cells3 ac.out)); (try (obtain ⟨⟨aZ, a0, a1⟩, a2, a3, a4⟩ := cells3 ab.out)))); refine store_event (t := 39) (p := 2) (v := ?_) (w1 := ((((a9.setCell ⟨aj, 1, none⟩ (.int .i64 (-1))).setCell ⟨ad, 0, none⟩ (.int .i64 ae)).setCell ⟨ad, 1, none⟩ (.int .i64 (-1))).setCell ⟨ad, 2, none⟩ (.slice ak am.length al))) ?hg ?ho ?hn ?hr ?_; (case ho => rfl); (case hg => rfl); (case hn => rfl); (case hr => first | (go_simp; done) | (go_simp; rfl)); intro a5 hw; have n0_ : Aside0 (Kd.R (Kd.int .u8) 5 a5 w.heap.size (fun _ => True) (.slice ak am.length al) am) := ⟨(by rw [hw]; exact (by (with_reducible repeat (first | apply Kd.R_alloc | apply Kd.R_drewN | apply Kd.R_drew)); exact Kd.R_mono (Kd.R_far (p := ⟨ad, 2, none⟩) (Kd.R_far (p := ⟨ad, 1, none⟩) (Kd.R_far (p := ⟨ad, 0, none⟩) (Kd.R_far (p := ⟨aj, 1, none⟩) (Kd.R_types (Kd.R_types af.out ab.out (by decide)) ac.out (by decide)) (fun _ hk => hk.1.2) (.int .i64 (-1))) (fun _ hk => hk.2) (.int .i64 ae)) (fun _ hk => hk.2) (.int .i64 (-1))) (fun _ hk => hk.2) (.slice ak am.length al)) (fun _ hk => trivial)))⟩; have n1_ : Aside0 (a5.heap[ad]? = some (.cells #[.int .i64 ae, .int .i64 (-1), .slice ak am.length al] 39 (0, 0))) := ⟨(by rw [hw]; exact (by (with_reducible repeat (first | refine blk_drewN ?_ _ | refine blk_drew ?_ | refine blk_alloc ?_ _)); refine blk_put (cs := #[.int .i64 ae, .int .i64 (-1), .slice none 0 0]) ?_ 2 _ rfl; (with_reducible repeat (first | refine blk_drewN ?_ _ | refine blk_drew ?_ | refine blk_alloc ?_ _)); refine blk_put (cs := #[.int .i64 ae, .int .i64 0, .slice none 0 0]) ?_ 1 _ rfl; (with_reducible repeat (first | refine blk_drewN ?_ _ | refine blk_drew ?_ | refine blk_alloc ?_ _)); refine blk_put (cs := #[.int .i64 0, .int .i64 0, .slice none 0 0]) ?_ 0 _ rfl; (with_reducible repeat (first | refine blk_drewN ?_ _ | refine blk_drew ?_ | refine blk_alloc ?_ _)); refine blk_far ?_ aJ.out _; (with_reducible repeat (first | refine blk_drewN ?_ _ | refine blk_drew ?_ | refine blk_alloc ?_ _)); exact ac.out))⟩; have n2_ : Aside0 (a5.heap[aj]? = some (.cells #[.int .i64 ae, .int .i64 (-1), .slice ak am.length al] 39 (0, 0))) := ⟨(by rw [hw]; exact (by (with_reducible repeat (first | refine blk_drewN ?_ _ | refine blk_drew ?_ | refine blk_alloc ?_ _)); refine blk_far ?_ ap.out _; (with_reducible repeat (first | refine blk_drewN ?_ _ | refine blk_drew ?_ | refine blk_alloc ?_ _)); refine blk_far ?_ ap.out _; (with_reducible repeat (first | refine blk_drewN ?_ _ | refine blk_drew ?_ | refine blk_alloc ?_ _)); refine blk_far ?_ ap.out _; (with_reducible repeat (first | refine blk_drewN ?_ _ | refine blk_drew ?_ | refine blk_alloc ?_ _)); refine blk_put (cs := #[.int .i64 ae, .int .i64 ag, .slice ak am.length al]) ?_ 1 _ rfl; (with_reducible repeat (first | refine blk_drewN ?_ _ | refine blk_drew ?_ | refine blk_alloc ?_ _)); exact ab.out))⟩; have n3_ : Aside0 (IsS64 w a5 aI l0 bc bd) := ⟨(by rw [hw]; exact (by repeat (first | (with_reducible first | exact aa.out | apply IsS64.alloc | apply IsS64.drewN | apply IsS64.drew | apply IsS64.set_1 | apply IsS64.set_2 | refine IsS64.far ?_ an.out _ | refine IsS64.far ?_ ao.out _) | exact aa.out)))⟩; have n4_ : Aside0 (Below w.heap.size w a5) := ⟨(by rw [hw]; exact (by repeat (first | (with_reducible first | exact HB.out | apply below_alloc | apply pw_below_drewN | apply below_drew1 | refine below_set ?_ (IsS64.ge aa.out) | refine below_set ?_ az.out | refine below_set ?_ aF.out) | exact HB.out)))⟩; clear hw; clear af; clear ac; clear ab; clear aa; clear HB; have af := n0_; have ac := n1_; have ab := n2_; have aa := n3_; have HB := n4_; clear n0_ n1_ n2_ n3_ n4_))
 refine bodyPost_ret (results_ctt rfl _ _ ad 39 #[.int .i64 ae, .int .i64 (-1), .slice ak am.length al] (0, 0) _ rfl (Bh ac) Try.underlying39 rfl (by kernel_rfl)) rfl ?_
 exact ⟨_, by first | rfl | (simp [errW_none, errW_some] <;> rfl) | (simp [*, errW_none, errW_some] <;> rfl), by (with_reducible repeat (first | apply Kd.R_alloc | apply Kd.R_drewN | apply Kd.R_drew)); exact af.out, by repeat (first | (with_reducible first | exact HB.out | apply below_alloc | apply pw_below_drewN | apply below_drew1 | refine below_set ?_ (IsS64.ge aa.out) | refine below_set ?_ az.out | refine below_set ?_ aF.out) | exact HB.out)⟩
 }
 iterate 2 (
 focus (
 obtain ⟨⟨bF, bG, bH⟩, bI, bJ, bK⟩ := cells3 ab.out; obtain ⟨⟨bL, bM, bN⟩, bO, bP, bQ⟩ := cells3 ac.out
 go_wp2_with (first | ((with_reducible refine gate_store (t := 39) (p := 2) rfl ?_); (try (rw [drewN_self a9]; generalize hq_ : World.drewN a9 _ = a9; replace af := Aside0.mk (Kd.R_at hq_ af.out); replace ac := Aside0.mk (blk_at hq_ ac.out); replace ab := Aside0.mk (blk_at hq_ ab.out); replace aa := Aside0.mk (IsS64.at_ hq_ aa.out); replace HB := Aside0.mk (below_at hq_ HB.out); clear hq_; (try (obtain ⟨⟨aR, aS, aT⟩, aU, aV, aW⟩ := cells3 ac.out)); (try (obtain ⟨⟨aZ, a0, a1⟩, a2, a3, a4⟩ := cells3 ab.out)))); refine store_event (t := 39) (p := 2) (v := ?_) (w1 := (((a9.setCell ⟨ad, 0, none⟩ (.int .i64 ae)).setCell ⟨ad, 1, none⟩ (.int .i64 ag)).setCell ⟨ad, 2, none⟩ (.slice ak am.length al))) ?hg ?ho ?hn ?hr ?_; (case ho => rfl); (case hg => rfl); (case hn => rfl); (case hr => first | (go_simp; done) | (go_simp; rfl)); intro a5 hw; have n0_ : Aside0 (Kd.R (Kd.int .u8) 5 a5 w.heap.size (fun _ => True) (.slice ak am.length al) am) := ⟨(by rw [hw]; exact (by (with_reducible repeat (first | apply Kd.R_alloc | apply Kd.R_drewN | apply Kd.R_drew)); exact Kd.R_mono (Kd.R_far (p := ⟨ad, 2, none⟩) (Kd.R_far (p := ⟨ad, 1, none⟩) (Kd.R_far (p := ⟨ad, 0, none⟩) (Kd.R_types af.out ac.out (by decide)) (fun _ hk => hk.2) (.int .i64 ae)) (fun _ hk => hk.2) (.int .i64 ag)) (fun _ hk => hk.2) (.slice ak am.length al)) (fun _ hk => trivial)))⟩; have n1_ : Aside0 (a5.heap[ad]? = some (.cells #[.int .i64 ae, .int .i64 ag, .slice ak am.length al] 39 (0, 0))) := ⟨(by rw [hw]; exact (by (with_reducible repeat (first | refine blk_drewN ?_ _ | refine blk_drew ?_ | refine blk_alloc ?_ _)); refine blk_put (cs := #[.int .i64 ae, .int .i64 ag, .slice none 0 0]) ?_ 2 _ rfl; (with_reducible repeat (first | refine blk_drewN ?_ _ | refine blk_drew ?_ | refine blk_alloc ?_ _)); refine blk_put (cs := #[.int .i64 ae, .int .i64 0, .slice none 0 0]) ?_ 1 _ rfl; (with_reducible repeat (first | refine blk_drewN ?_ _ | refine blk_drew ?_ | refine blk_alloc ?_ _)); refine blk_put (cs := #[.int .i64 0, .int .i64 0, .slice none 0 0]) ?_ 0 _ rfl; (with_reducible repeat (first | refine blk_drewN ?_ _ | refine blk_drew ?_ | refine blk_alloc ?_ _)); exact ac.out))⟩; have n2_ : Aside0 (a5.heap[aj]? = some (.cells #[.int .i64 ae, .int .i64 ag, .slice ak am.length al] 39 (0, 0))) := ⟨(by rw [hw]; exact (by (with_reducible repeat (first | refine blk_drewN ?_ _ | refine blk_drew ?_ | refine blk_alloc ?_ _)); refine blk_far ?_ ap.out _; (with_reducible repeat (first | refine blk_drewN ?_ _ | refine blk_drew ?_ | refine blk_alloc ?_ _)); refine blk_far ?_ ap.out _; (with_reducible repeat (first | refine blk_drewN ?_ _ | refine blk_drew ?_ | refine blk_alloc ?_ _)); refine blk_far ?_ ap.out _; (with_reducible repeat (first | refine blk_drewN ?_ _ | refine blk_drew ?_ | refine blk_alloc ?_ _)); exact ab.out))⟩; have n3_ : Aside0 (IsS64 w a5 aI l0 bc bd) := ⟨(by rw [hw]; exact (by repeat (first | (with_reducible first | exact aa.out | apply IsS64.alloc | apply IsS64.drewN | apply IsS64.drew | apply IsS64.set_1 | apply IsS64.set_2 | refine IsS64.far ?_ an.out _ | refine IsS64.far ?_ ao.out _) | exact aa.out)))⟩; have n4_ : Aside0 (Below w.heap.size w a5) := ⟨(by rw [hw]; exact (by repeat (first | (with_reducible first | exact HB.out | apply below_alloc | apply pw_below_drewN | apply below_drew1 | refine below_set ?_ (IsS64.ge aa.out) | refine below_set ?_ az.out | refine below_set ?_ aF.out) | exact HB.out)))⟩; clear hw; clear af; clear ac; clear ab; clear aa; clear HB; have af := n0_; have ac := n1_; have ab := n2_; have aa := n3_; have HB := n4_; clear n0_ n1_ n2_ n3_ n4_))
 refine bodyPost_ret (results_ctt rfl _ _ ad 39 #[.int .i64 ae, .int .i64 ag, .slice ak am.length al] (0, 0) _ rfl (Bh ac) Try.underlying39 rfl (by kernel_rfl)) rfl ?_
 exact ⟨_, by first | rfl | (simp [errW_none, errW_some] <;> rfl) | (simp [*, errW_none, errW_some] <;> rfl), by (with_reducible repeat (first | apply Kd.R_alloc | apply Kd.R_drewN | apply Kd.R_drew)); exact af.out, by repeat (first | (with_reducible first | exact HB.out | apply below_alloc | apply pw_below_drewN | apply below_drew1 | refine below_set ?_ (IsS64.ge aa.out) | refine below_set ?_ az.out | refine below_set ?_ aF.out) | exact HB.out)⟩
 )
 )
 {
 go_wp2_with (first | ((with_reducible refine gate_callee (f := 40) rfl ?_); refine goesL_ (some 29) rfl rfl Try.func40 (by kernel_rfl) rfl #[.pointer (some ⟨aI, 0, none⟩), .int .i64 2] rfl wT ?_; (with_reducible refine (spec_l01Next.calls aI l0 bc bd 2 cb cV cW w _ ?side1 ?side2 A12.out).mono ?_); (case side1 => repeat (first | (with_reducible first | exact aa.out | apply IsS64.alloc | apply IsS64.drewN | apply IsS64.drew | apply IsS64.set_1 | apply IsS64.set_2 | refine IsS64.far ?_ an.out _ | refine IsS64.far ?_ ao.out _) | exact aa.out)); (case side2 => repeat (first | (with_reducible first | exact HB.out | apply below_alloc | apply pw_below_drewN | apply below_drew1 | refine below_set ?_ (IsS64.ge aa.out) | refine below_set ?_ az.out | refine below_set ?_ aF.out) | exact HB.out)); rintro e bi ⟨rfl, hi, hb, hk⟩; refine ⟨_, rfl, ?_⟩; replace ac := Aside0.mk (KeepBut.blk hk (g' := ad) (o := .cells #[.int .i64 0, .int .i64 0, .slice none 0 0] 39 (0, 0)) (Bh ac) a7.out (by simp)); replace af := Aside0.mk (Kd.R_mono (Kd.R_keep (IsS64.apart (show IsS64 w _ aI l0 bc bd from by repeat (first | (with_reducible first | exact aa.out | apply IsS64.alloc | apply IsS64.drewN | apply IsS64.drew | apply IsS64.set_1 | apply IsS64.set_2 | refine IsS64.far ?_ an.out _ | refine IsS64.far ?_ ao.out _) | exact aa.out)) (Rh af) (by decide)) hk (fun _ h => h.2)) (fun _ h => h.1)); replace ab := Aside0.mk (KeepBut.blk hk (g' := aj) (o := .cells #[.int .i64 ae, .int .i64 ag, .slice ak am.length al] 39 (0, 0)) (Bh ab) bo.out (by simp)); replace HB := Aside0.mk (hb); replace aa := Aside0.mk (hi); (try clear hb); (try clear hb2); (try clear hk); (try clear hi)) | ((with_reducible refine gate_dst (N := 31) rfl ?_); refine Kd.R_make (Kd.int .u8) _ 5 rfl (N := 31) rfl 22 _ _ rfl bp rfl rfl Try.underlying22 (.int .u8 0) 1 info5 rfl (by decide) (by omega) 0 (ok := fun _ => True) (okp := fun _ => True) rfl (fun _ hk => hk) trivial (of_decide_eq_true (by first | (with_reducible assumption) | assumption)) (Nat.le_trans (Nat.mul_le_mul_right _ (of_decide_eq_true (by first | (with_reducible assumption) | assumption) : bp.toNat ≤ 281474976710656)) (by omega)) (Below.refl _ _) (Nat.le_refl _) ?_; intro dR cl bz hb hg_ hnew_; clear hg_ hnew_; (first | rw [← Ny273.out] at bz | (simp only [Int.reduceToNat] at bz; rw [← Ny273.out] at bz)); have uB := below_pre (n := w.heap.size) (w := w) hb (by repeat (first | (with_reducible first | exact HB.out | apply below_alloc | apply pw_below_drewN | apply below_drew1 | refine below_set ?_ (IsS64.ge aa.out) | refine below_set ?_ az.out | refine below_set ?_ aF.out) | exact HB.out)); have bA := Aside0.mk (Kd.R_lower (Kd.R_new' bz (Kd.R_lt (Rh af))) (below_size uB)); replace af := Aside0.mk (Kd.R_elder' (Rh af) (Kd.R_base bz) hb); replace ac := Aside0.mk (blk_below (Bh ac) hb); replace ab := Aside0.mk (blk_below (Bh ab) hb); replace HB := Aside0.mk (below_step uB hb); replace aa := Aside0.mk (IsS64.below (by repeat (first | (with_reducible first | exact aa.out | apply IsS64.alloc | apply IsS64.drewN | apply IsS64.drew | apply IsS64.set_1 | apply IsS64.set_2 | refine IsS64.far ?_ an.out _ | refine IsS64.far ?_ ao.out _) | exact aa.out)) hb); clear uB; clear hb bz; obtain ⟨bg, bh, cX⟩ := Kd.R_slice bA.out; subst cX; obtain ⟨⟨dv, dw, dx⟩, dy, dz, dA⟩ := cells3 ab.out; obtain ⟨⟨bR, bS, bT⟩, bU, bV, bW⟩ := cells3 ac.out) | ((with_reducible refine gate_store (t := 39) (p := 2) rfl ?_); (try (rw [drewN_self cl]; generalize hq_ : World.drewN cl _ = cl; replace af := Aside0.mk (Kd.R_at hq_ af.out); replace bA := Aside0.mk (Kd.R_at hq_ bA.out); replace ac := Aside0.mk (blk_at hq_ ac.out); replace ab := Aside0.mk (blk_at hq_ ab.out); replace aa := Aside0.mk (IsS64.at_ hq_ aa.out); replace HB := Aside0.mk (below_at hq_ HB.out); clear hq_; (try (obtain ⟨⟨aR, aS, aT⟩, aU, aV, aW⟩ := cells3 ac.out)); (try (obtain ⟨⟨aZ, a0, a1⟩, a2, a3, a4⟩ := cells3 ab.out)))); refine store_event (t := 39) (p := 2) (v := ?_) (w1 := ((((cl.setCell ⟨aj, 2, none⟩ (.slice bg bn.length bh)).setCell ⟨ad, 0, none⟩ (.int .i64 ae)).setCell ⟨ad, 1, none⟩ (.int .i64 ag)).setCell ⟨ad, 2, none⟩ (.slice bg bn.length bh))) ?hg ?ho ?hn ?hr ?_; (case ho => rfl); (case hg => rfl); (case hn => rfl); (case hr => first | (go_simp; done) | (go_simp; rfl)); intro bZ hw; have n0_ : Aside0 (Kd.R (Kd.int .u8) 5 bZ w.heap.size (fun k_ => some k_ ≠ (.slice bg bn.length bh : Value).ownBlock) (.slice ak am.length al) am) := ⟨(by rw [hw]; exact (by (with_reducible repeat (first | apply Kd.R_alloc | apply Kd.R_drewN | apply Kd.R_drew)); exact Kd.R_mono (Kd.R_far (p := ⟨ad, 2, none⟩) (Kd.R_far (p := ⟨ad, 1, none⟩) (Kd.R_far (p := ⟨ad, 0, none⟩) (Kd.R_far (p := ⟨aj, 2, none⟩) (Kd.R_types (Kd.R_types af.out ab.out (by decide)) ac.out (by decide)) (fun _ hk => hk.1.2) (.slice bg bn.length bh)) (fun _ hk => hk.2) (.int .i64 ae)) (fun _ hk => hk.2) (.int .i64 ag)) (fun _ hk => hk.2) (.slice bg bn.length bh)) (fun _ hk => hk.1.1.2)))⟩; have n1_ : Aside0 (Kd.R (Kd.int .u8) 5 bZ w.heap.size (fun k_ => some k_ ≠ (.slice ak am.length al : Value).ownBlock) (.slice bg bn.length bh) bn) := ⟨(by rw [hw]; exact (by (with_reducible repeat (first | apply Kd.R_alloc | apply Kd.R_drewN | apply Kd.R_drew)); exact Kd.R_mono (Kd.R_far (p := ⟨ad, 2, none⟩) (Kd.R_far (p := ⟨ad, 1, none⟩) (Kd.R_far (p := ⟨ad, 0, none⟩) (Kd.R_far (p := ⟨aj, 2, none⟩) (Kd.R_types (Kd.R_types bA.out ab.out (by decide)) ac.out (by decide)) (fun _ hk => hk.1.2) (.slice bg bn.length bh)) (fun _ hk => hk.2) (.int .i64 ae)) (fun _ hk => hk.2) (.int .i64 ag)) (fun _ hk => hk.2) (.slice bg bn.length bh)) (fun _ hk => hk.1.1.2)))⟩; have n2_ : Aside0 (bZ.heap[ad]? = some (.cells #[.int .i64 ae, .int .i64 ag, .slice bg bn.length bh] 39 (0, 0))) := ⟨(by rw [hw]; exact (by (with_reducible repeat (first | refine blk_drewN ?_ _ | refine blk_drew ?_ | refine blk_alloc ?_ _)); refine blk_put (cs := #[.int .i64 ae, .int .i64 ag, .slice none 0 0]) ?_ 2 _ rfl; (with_reducible repeat (first | refine blk_drewN ?_ _ | refine blk_drew ?_ | refine blk_alloc ?_ _)); refine blk_put (cs := #[.int .i64 ae, .int .i64 0, .slice none 0 0]) ?_ 1 _ rfl; (with_reducible repeat (first | refine blk_drewN ?_ _ | refine blk_drew ?_ | refine blk_alloc ?_ _)); refine blk_put (cs := #[.int .i64 0, .int .i64 0, .slice none 0 0]) ?_ 0 _ rfl; (with_reducible repeat (first | refine blk_drewN ?_ _ | refine blk_drew ?_ | refine blk_alloc ?_ _)); refine blk_far ?_ aJ.out _; (with_reducible repeat (first | refine blk_drewN ?_ _ | refine blk_drew ?_ | refine blk_alloc ?_ _)); exact ac.out))⟩; have n3_ : Aside0 (bZ.heap[aj]? = some (.cells #[.int .i64 ae, .int .i64 ag, .slice bg bn.length bh] 39 (0, 0))) := ⟨(by rw [hw]; exact (by (with_reducible repeat (first | refine blk_drewN ?_ _ | refine blk_drew ?_ | refine blk_alloc ?_ _)); refine blk_far ?_ ap.out _; (with_reducible repeat (first | refine blk_drewN ?_ _ | refine blk_drew ?_ | refine blk_alloc ?_ _)); refine blk_far ?_ ap.out _; (with_reducible repeat (first | refine blk_drewN ?_ _ | refine blk_drew ?_ | refine blk_alloc ?_ _)); refine blk_far ?_ ap.out _; (with_reducible repeat (first | refine blk_drewN ?_ _ | refine blk_drew ?_ | refine blk_alloc ?_ _)); refine blk_put (cs := #[.int .i64 ae, .int .i64 ag, .slice ak am.length al]) ?_ 2 _ rfl; (with_reducible repeat (first | refine blk_drewN ?_ _ | refine blk_drew ?_ | refine blk_alloc ?_ _)); exact ab.out))⟩; have n4_ : Aside0 (IsS64 w bZ aI l0 cV cW) := ⟨(by rw [hw]; exact (by repeat (first | (with_reducible first | exact aa.out | apply IsS64.alloc | apply IsS64.drewN | apply IsS64.drew | apply IsS64.set_1 | apply IsS64.set_2 | refine IsS64.far ?_ an.out _ | refine IsS64.far ?_ ao.out _) | exact aa.out)))⟩; have n5_ : Aside0 (Below w.heap.size w bZ) := ⟨(by rw [hw]; exact (by repeat (first | (with_reducible first | exact HB.out | apply below_alloc | apply pw_below_drewN | apply below_drew1 | refine below_set ?_ (IsS64.ge aa.out) | refine below_set ?_ az.out | refine below_set ?_ aF.out) | exact HB.out)))⟩; clear hw; clear af; clear bA; clear ac; clear ab; clear aa; clear HB; have af := n0_; have bA := n1_; have ac := n2_; have ab := n3_; have aa := n4_; have HB := n5_; clear n0_ n1_ n2_ n3_ n4_ n5_))
 refine bodyPost_ret (results_ctt rfl _ _ ad 39 #[.int .i64 ae, .int .i64 ag, .slice bg bn.length bh] (0, 0) _ rfl (Bh ac) Try.underlying39 rfl (by kernel_rfl)) rfl ?_
 exact ⟨_, by first | rfl | (simp [errW_none, errW_some] <;> rfl) | (simp only [← hji13]; first | rfl | (simp [errW_none, errW_some] <;> rfl)) | (simp [*, errW_none, errW_some] <;> rfl), Kd.R_mono (Rh bA) (fun _ hk => trivial), by repeat (first | (with_reducible first | exact HB.out | apply below_alloc | apply pw_below_drewN | apply below_drew1 | refine below_set ?_ (IsS64.ge aa.out) | refine below_set ?_ az.out | refine below_set ?_ aF.out) | exact HB.out)⟩
 }
 {
 go_wp2_with (first | ((with_reducible refine gate_dst (N := 35) rfl ?_); refine Kd.R_lit (Kd.int .u8) _ 5 ?hg (N := 35) ?hd (xs := ([255, 255] : List Int)) (inner := [.int .u8 255, .int .u8 255]) (ok := fun _ => True) (okp := fun _ => True) ?hr ?hp (fun _ hk => hk) trivial (Below.refl _ _) (Nat.le_refl _) (by simp) ?_; (case hd => rfl); (case hg => rfl); (case hr => first | (go_simp; done) | (go_simp; rfl)); (case hp => exact (Reps.one (show Kd.M (Kd.int .u8) _ _ _ 255 [.int .u8 255] from rfl) (Reps.one (show Kd.M (Kd.int .u8) _ _ _ 255 [.int .u8 255] from rfl) (Reps.none _ _)))); intro dS bi aE hb hg_ hnew_; clear hg_ hnew_; (first | rw [← Ny276.out] at aE | (simp only [Int.reduceToNat] at aE; rw [← Ny276.out] at aE)); have uB := below_pre (n := w.heap.size) (w := w) hb (by repeat (first | (with_reducible first | exact HB.out | apply below_alloc | apply pw_below_drewN | apply below_drew1 | refine below_set ?_ (IsS64.ge aa.out) | refine below_set ?_ az.out | refine below_set ?_ aF.out) | exact HB.out)); have bk := Aside0.mk (Kd.R_lower (Kd.R_new' aE (Kd.R_lt (Rh af))) (below_size uB)); replace af := Aside0.mk (Kd.R_elder' (Rh af) (Kd.R_base aE) hb); replace ac := Aside0.mk (blk_below (Bh ac) hb); replace ab := Aside0.mk (blk_below (Bh ab) hb); replace HB := Aside0.mk (below_step uB hb); replace aa := Aside0.mk (IsS64.below (by repeat (first | (with_reducible first | exact aa.out | apply IsS64.alloc | apply IsS64.drewN | apply IsS64.drew | apply IsS64.set_1 | apply IsS64.set_2 | refine IsS64.far ?_ an.out _ | refine IsS64.far ?_ ao.out _) | exact aa.out)) hb); clear uB; clear hb aE; obtain ⟨ai, ah, bl⟩ := Kd.R_slice bk.out; subst bl; obtain ⟨⟨br, bs, bu⟩, bv, bw, bx⟩ := cells3 ab.out) | ((with_reducible refine gate_store (t := 39) (p := 6) rfl ?_); (try (rw [drewN_self bi]; generalize hq_ : World.drewN bi _ = bi; replace af := Aside0.mk (Kd.R_at hq_ af.out); replace bk := Aside0.mk (Kd.R_at hq_ bk.out); replace ac := Aside0.mk (blk_at hq_ ac.out); replace ab := Aside0.mk (blk_at hq_ ab.out); replace aa := Aside0.mk (IsS64.at_ hq_ aa.out); replace HB := Aside0.mk (below_at hq_ HB.out); clear hq_; (try (obtain ⟨⟨aR, aS, aT⟩, aU, aV, aW⟩ := cells3 ac.out)); (try (obtain ⟨⟨aZ, a0, a1⟩, a2, a3, a4⟩ := cells3 ab.out)))); refine store_event (t := 39) (p := 6) (v := ?_) (w1 := (((bi.setCell ⟨aj, 0, none⟩ (.int .i64 65535)).setCell ⟨aj, 1, none⟩ (.int .i64 65535)).setCell ⟨aj, 2, none⟩ (.slice ai bf.length ah))) ?hg ?ho ?hn ?hr ?_; (case ho => rfl); (case hg => rfl); (case hn => rfl); (case hr => first | (go_simp; done) | (go_simp; rfl)); intro aX hw; have n0_ : Aside0 (Kd.R (Kd.int .u8) 5 aX w.heap.size (fun k_ => some k_ ≠ (.slice ai bf.length ah : Value).ownBlock) (.slice ak am.length al) am) := ⟨(by rw [hw]; exact (by (with_reducible repeat (first | apply Kd.R_alloc | apply Kd.R_drewN | apply Kd.R_drew)); exact Kd.R_mono (Kd.R_far (p := ⟨aj, 2, none⟩) (Kd.R_far (p := ⟨aj, 1, none⟩) (Kd.R_far (p := ⟨aj, 0, none⟩) (Kd.R_types af.out ab.out (by decide)) (fun _ hk => hk.2) (.int .i64 65535)) (fun _ hk => hk.2) (.int .i64 65535)) (fun _ hk => hk.2) (.slice ai bf.length ah)) (fun _ hk => hk.1.2)))⟩; have n1_ : Aside0 (Kd.R (Kd.int .u8) 5 aX w.heap.size (fun k_ => some k_ ≠ (.slice ak am.length al : Value).ownBlock) (.slice ai bf.length ah) bf) := ⟨(by rw [hw]; exact (by (with_reducible repeat (first | apply Kd.R_alloc | apply Kd.R_drewN | apply Kd.R_drew)); exact Kd.R_mono (Kd.R_far (p := ⟨aj, 2, none⟩) (Kd.R_far (p := ⟨aj, 1, none⟩) (Kd.R_far (p := ⟨aj, 0, none⟩) (Kd.R_types bk.out ab.out (by decide)) (fun _ hk => hk.2) (.int .i64 65535)) (fun _ hk => hk.2) (.int .i64 65535)) (fun _ hk => hk.2) (.slice ai bf.length ah)) (fun _ hk => hk.1.2)))⟩; have n2_ : Aside0 (aX.heap[ad]? = some (.cells #[.int .i64 0, .int .i64 0, .slice none 0 0] 39 (0, 0))) := ⟨(by rw [hw]; exact (by (with_reducible repeat (first | refine blk_drewN ?_ _ | refine blk_drew ?_ | refine blk_alloc ?_ _)); refine blk_far ?_ aJ.out _; (with_reducible repeat (first | refine blk_drewN ?_ _ | refine blk_drew ?_ | refine blk_alloc ?_ _)); refine blk_far ?_ aJ.out _; (with_reducible repeat (first | refine blk_drewN ?_ _ | refine blk_drew ?_ | refine blk_alloc ?_ _)); refine blk_far ?_ aJ.out _; (with_reducible repeat (first | refine blk_drewN ?_ _ | refine blk_drew ?_ | refine blk_alloc ?_ _)); exact ac.out))⟩; have n3_ : Aside0 (aX.heap[aj]? = some (.cells #[.int .i64 65535, .int .i64 65535, .slice ai bf.length ah] 39 (0, 0))) := ⟨(by rw [hw]; exact (by (with_reducible repeat (first | refine blk_drewN ?_ _ | refine blk_drew ?_ | refine blk_alloc ?_ _)); refine blk_put (cs := #[.int .i64 65535, .int .i64 65535, .slice ak am.length al]) ?_ 2 _ rfl; (with_reducible repeat (first | refine blk_drewN ?_ _ | refine blk_drew ?_ | refine blk_alloc ?_ _)); refine blk_put (cs := #[.int .i64 65535, .int .i64 ag, .slice ak am.length al]) ?_ 1 _ rfl; (with_reducible repeat (first | refine blk_drewN ?_ _ | refine blk_drew ?_ | refine blk_alloc ?_ _)); refine blk_put (cs := #[.int .i64 ae, .int .i64 ag, .slice ak am.length al]) ?_ 0 _ rfl; (with_reducible repeat (first | refine blk_drewN ?_ _ | refine blk_drew ?_ | refine blk_alloc ?_ _)); exact ab.out))⟩; have n4_ : Aside0 (IsS64 w aX aI l0 bc bd) := ⟨(by rw [hw]; exact (by repeat (first | (with_reducible first | exact aa.out | apply IsS64.alloc | apply IsS64.drewN | apply IsS64.drew | apply IsS64.set_1 | apply IsS64.set_2 | refine IsS64.far ?_ an.out _ | refine IsS64.far ?_ ao.out _) | exact aa.out)))⟩; have n5_ : Aside0 (Below w.heap.size w aX) := ⟨(by rw [hw]; exact (by repeat (first | (with_reducible first | exact HB.out | apply below_alloc | apply pw_below_drewN | apply below_drew1 | refine below_set ?_ (IsS64.ge aa.out) | refine below_set ?_ az.out | refine below_set ?_ aF.out) | exact HB.out)))⟩; clear hw; clear af; clear bk; clear ac; clear ab; clear aa; clear HB; have af := n0_; have bk := n1_; have ac := n2_; have ab := n3_; have aa := n4_; have HB := n5_; clear n0_ n1_ n2_ n3_ n4_ n5_; obtain ⟨⟨bR, bS, bT⟩, bU, bV, bW⟩ := cells3 ab.out; obtain ⟨⟨cc, cd, ce⟩, cf, cg, ch⟩ := cells3 ac.out) | ((with_reducible refine gate_store (t := 39) (p := 2) rfl ?_); (try (rw [drewN_self aX]; generalize hq_ : World.drewN aX _ = aX; replace af := Aside0.mk (Kd.R_at hq_ af.out); replace bk := Aside0.mk (Kd.R_at hq_ bk.out); replace ac := Aside0.mk (blk_at hq_ ac.out); replace ab := Aside0.mk (blk_at hq_ ab.out); replace aa := Aside0.mk (IsS64.at_ hq_ aa.out); replace HB := Aside0.mk (below_at hq_ HB.out); clear hq_; (try (obtain ⟨⟨aR, aS, aT⟩, aU, aV, aW⟩ := cells3 ac.out)); (try (obtain ⟨⟨aZ, a0, a1⟩, a2, a3, a4⟩ := cells3 ab.out)))); refine store_event (t := 39) (p := 2) (v := ?_) (w1 := (((aX.setCell ⟨ad, 0, none⟩ (.int .i64 65535)).setCell ⟨ad, 1, none⟩ (.int .i64 65535)).setCell ⟨ad, 2, none⟩ (.slice ai bf.length ah))) ?hg ?ho ?hn ?hr ?_; (case ho => rfl); (case hg => rfl); (case hn => rfl); (case hr => first | (go_simp; done) | (go_simp; rfl)); intro aK hw; have n0_ : Aside0 (Kd.R (Kd.int .u8) 5 aK w.heap.size (fun k_ => some k_ ≠ (.slice ai bf.length ah : Value).ownBlock) (.slice ak am.length al) am) := ⟨(by rw [hw]; exact (by (with_reducible repeat (first | apply Kd.R_alloc | apply Kd.R_drewN | apply Kd.R_drew)); exact Kd.R_mono (Kd.R_far (p := ⟨ad, 2, none⟩) (Kd.R_far (p := ⟨ad, 1, none⟩) (Kd.R_far (p := ⟨ad, 0, none⟩) (Kd.R_types af.out ac.out (by decide)) (fun _ hk => hk.2) (.int .i64 65535)) (fun _ hk => hk.2) (.int .i64 65535)) (fun _ hk => hk.2) (.slice ai bf.length ah)) (fun _ hk => hk.1)))⟩; have n1_ : Aside0 (Kd.R (Kd.int .u8) 5 aK w.heap.size (fun k_ => some k_ ≠ (.slice ak am.length al : Value).ownBlock) (.slice ai bf.length ah) bf) := ⟨(by rw [hw]; exact (by (with_reducible repeat (first | apply Kd.R_alloc | apply Kd.R_drewN | apply Kd.R_drew)); exact Kd.R_mono (Kd.R_far (p := ⟨ad, 2, none⟩) (Kd.R_far (p := ⟨ad, 1, none⟩) (Kd.R_far (p := ⟨ad, 0, none⟩) (Kd.R_types bk.out ac.out (by decide)) (fun _ hk => hk.2) (.int .i64 65535)) (fun _ hk => hk.2) (.int .i64 65535)) (fun _ hk => hk.2) (.slice ai bf.length ah)) (fun _ hk => hk.1)))⟩; have n2_ : Aside0 (aK.heap[ad]? = some (.cells #[.int .i64 65535, .int .i64 65535, .slice ai bf.length ah] 39 (0, 0))) := ⟨(by rw [hw]; exact (by (with_reducible repeat (first | refine blk_drewN ?_ _ | refine blk_drew ?_ | refine blk_alloc ?_ _)); refine blk_put (cs := #[.int .i64 65535, .int .i64 65535, .slice none 0 0]) ?_ 2 _ rfl; (with_reducible repeat (first | refine blk_drewN ?_ _ | refine blk_drew ?_ | refine blk_alloc ?_ _)); refine blk_put (cs := #[.int .i64 65535, .int .i64 0, .slice none 0 0]) ?_ 1 _ rfl; (with_reducible repeat (first | refine blk_drewN ?_ _ | refine blk_drew ?_ | refine blk_alloc ?_ _)); refine blk_put (cs := #[.int .i64 0, .int .i64 0, .slice none 0 0]) ?_ 0 _ rfl; (with_reducible repeat (first | refine blk_drewN ?_ _ | refine blk_drew ?_ | refine blk_alloc ?_ _)); exact ac.out))⟩; have n3_ : Aside0 (aK.heap[aj]? = some (.cells #[.int .i64 65535, .int .i64 65535, .slice ai bf.length ah] 39 (0, 0))) := ⟨(by rw [hw]; exact (by (with_reducible repeat (first | refine blk_drewN ?_ _ | refine blk_drew ?_ | refine blk_alloc ?_ _)); refine blk_far ?_ ap.out _; (with_reducible repeat (first | refine blk_drewN ?_ _ | refine blk_drew ?_ | refine blk_alloc ?_ _)); refine blk_far ?_ ap.out _; (with_reducible repeat (first | refine blk_drewN ?_ _ | refine blk_drew ?_ | refine blk_alloc ?_ _)); refine blk_far ?_ ap.out _; (with_reducible repeat (first | refine blk_drewN ?_ _ | refine blk_drew ?_ | refine blk_alloc ?_ _)); exact ab.out))⟩; have n4_ : Aside0 (IsS64 w aK aI l0 bc bd) := ⟨(by rw [hw]; exact (by repeat (first | (with_reducible first | exact aa.out | apply IsS64.alloc | apply IsS64.drewN | apply IsS64.drew | apply IsS64.set_1 | apply IsS64.set_2 | refine IsS64.far ?_ an.out _ | refine IsS64.far ?_ ao.out _) | exact aa.out)))⟩; have n5_ : Aside0 (Below w.heap.size w aK) := ⟨(by rw [hw]; exact (by repeat (first | (with_reducible first | exact HB.out | apply below_alloc | apply pw_below_drewN | apply below_drew1 | refine below_set ?_ (IsS64.ge aa.out) | refine below_set ?_ az.out | refine below_set ?_ aF.out) | exact HB.out)))⟩; clear hw; clear af; clear bk; clear ac; clear ab; clear aa; clear HB; have af := n0_; have bk := n1_; have ac := n2_; have ab := n3_; have aa := n4_; have HB := n5_; clear n0_ n1_ n2_ n3_ n4_ n5_))
 refine bodyPost_ret (results_ctt rfl _ _ ad 39 #[.int .i64 65535, .int .i64 65535, .slice ai bf.length ah] (0, 0) _ rfl (Bh ac) Try.underlying39 rfl (by kernel_rfl)) rfl ?_
 exact ⟨_, by first | rfl | (simp [errW_none, errW_some] <;> rfl) | (simp [*, errW_none, errW_some] <;> rfl), Kd.R_mono (Rh bk) (fun _ hk => trivial), by repeat (first | (with_reducible first | exact HB.out | apply below_alloc | apply pw_below_drewN | apply below_drew1 | refine below_set ?_ (IsS64.ge aa.out) | refine below_set ?_ az.out | refine below_set ?_ aF.out) | exact HB.out)⟩
 }
 {
 try go_wp2_with (first | ((with_reducible refine gate_dst (N := 40) rfl ?_); refine Kd.R_lit (Kd.int .u8) _ 5 ?hg (N := 40) ?hd (xs := ([0, 0] : List Int)) (inner := [.int .u8 0, .int .u8 0]) (ok := fun _ => True) (okp := fun _ => True) ?hr ?hp (fun _ hk => hk) trivial (Below.refl _ _) (Nat.le_refl _) (by simp) ?_; (case hd => rfl); (case hg => rfl); (case hr => first | (go_simp; done) | (go_simp; rfl)); (case hp => exact (Reps.one (show Kd.M (Kd.int .u8) _ _ _ 0 [.int .u8 0] from rfl) (Reps.one (show Kd.M (Kd.int .u8) _ _ _ 0 [.int .u8 0] from rfl) (Reps.none _ _)))); intro dB bi aE hb hg_ hnew_; clear hg_ hnew_; (first | rw [← Ny279.out] at aE | (simp only [Int.reduceToNat] at aE; rw [← Ny279.out] at aE)); have uB := below_pre (n := w.heap.size) (w := w) hb (by repeat (first | (with_reducible first | exact HB.out | apply below_alloc | apply pw_below_drewN | apply below_drew1 | refine below_set ?_ (IsS64.ge aa.out) | refine below_set ?_ az.out | refine below_set ?_ aF.out) | exact HB.out)); have aL := Aside0.mk (Kd.R_lower (Kd.R_new' aE (Kd.R_lt (Rh af))) (below_size uB)); replace af := Aside0.mk (Kd.R_elder' (Rh af) (Kd.R_base aE) hb); replace ac := Aside0.mk (blk_below (Bh ac) hb); replace ab := Aside0.mk (blk_below (Bh ab) hb); replace HB := Aside0.mk (below_step uB hb); replace aa := Aside0.mk (IsS64.below (by repeat (first | (with_reducible first | exact aa.out | apply IsS64.alloc | apply IsS64.drewN | apply IsS64.drew | apply IsS64.set_1 | apply IsS64.set_2 | refine IsS64.far ?_ an.out _ | refine IsS64.far ?_ ao.out _) | exact aa.out)) hb); clear uB; clear hb aE; obtain ⟨ai, ah, bl⟩ := Kd.R_slice aL.out; subst bl; obtain ⟨⟨br, bs, bu⟩, bv, bw, bx⟩ := cells3 ab.out) | ((with_reducible refine gate_callee (f := 15) rfl ?_); refine goesL_ (some 46) rfl rfl Try.func15 (by kernel_rfl) rfl #[.agg #[.int .i64 ae, .int .i64 ag, .slice ai aw.length ah], .int .i64 av, .int .i64 aG] rfl wT ?_; (with_reducible refine (spec_EncodeUdp.calls k ae ag _ _ aw av aG aP bD _ ?side1 ?side2 A18.out).mono ?_); (case side1 => refine (Kd.R_reads' (e := 5) (base := w.heap.size) (ok := fun k_ => (True ∧ some k_ ≠ (.slice ak am.length al : Value).ownBlock)) (n := aw.length) (c := ah) ?_).2.2; exact (by (with_reducible repeat (first | apply Kd.R_alloc | apply Kd.R_drewN | apply Kd.R_drew)); exact (Kd.R_mono (Kd.R_far (p := ⟨aj, 2, none⟩) (Kd.R_types aL.out ab.out (by decide)) (fun _ hk => hk.2) (.slice ai aw.length ah)) (fun _ h_ => h_.1)))); (case side2 => exact (Kd.R_reads' aL.out).2.1); rintro e aX ⟨cy, rfl, bj, hb⟩; refine ⟨_, rfl, ?_⟩; have uB := below_pre (n := w.heap.size) (w := w) hb (by repeat (first | (with_reducible first | exact HB.out | apply below_alloc | apply pw_below_drewN | apply below_drew1 | refine below_set ?_ (IsS64.ge aa.out) | refine below_set ?_ az.out | refine below_set ?_ aF.out) | exact HB.out)); have aN := Aside0.mk (Kd.R_lower (Kd.R_new' (Kd.R_new' bj (Kd.R_lt (by (with_reducible repeat (first | apply Kd.R_alloc | apply Kd.R_drewN | apply Kd.R_drew)); exact (Kd.R_mono (Kd.R_far (p := ⟨aj, 2, none⟩) (Kd.R_types af.out ab.out (by decide)) (fun _ hk => hk.2) (.slice ai aw.length ah)) (fun _ h_ => h_.1))))) (Kd.R_lt (by (with_reducible repeat (first | apply Kd.R_alloc | apply Kd.R_drewN | apply Kd.R_drew)); exact (Kd.R_mono (Kd.R_far (p := ⟨aj, 2, none⟩) (Kd.R_types aL.out ab.out (by decide)) (fun _ hk => hk.2) (.slice ai aw.length ah)) (fun _ h_ => h_.1))))) (below_size uB)); replace af := Aside0.mk (Kd.R_elder' (by (with_reducible repeat (first | apply Kd.R_alloc | apply Kd.R_drewN | apply Kd.R_drew)); exact (Kd.R_mono (Kd.R_far (p := ⟨aj, 2, none⟩) (Kd.R_types af.out ab.out (by decide)) (fun _ hk => hk.2) (.slice ai aw.length ah)) (fun _ h_ => h_.1))) (Kd.R_base bj) hb); replace aL := Aside0.mk (Kd.R_elder' (by (with_reducible repeat (first | apply Kd.R_alloc | apply Kd.R_drewN | apply Kd.R_drew)); exact (Kd.R_mono (Kd.R_far (p := ⟨aj, 2, none⟩) (Kd.R_types aL.out ab.out (by decide)) (fun _ hk => hk.2) (.slice ai aw.length ah)) (fun _ h_ => h_.1))) (Kd.R_base bj) hb); replace ac := Aside0.mk (blk_below (g := ad) (o := .cells #[.int .i64 0, .int .i64 0, .slice none 0 0] 39 (0, 0)) (by (with_reducible repeat (first | refine blk_drewN ?_ _ | refine blk_drew ?_ | refine blk_alloc ?_ _)); refine blk_far ?_ aJ.out _; (with_reducible repeat (first | refine blk_drewN ?_ _ | refine blk_drew ?_ | refine blk_alloc ?_ _)); exact ac.out) hb); replace ab := Aside0.mk (blk_below (g := aj) (o := .cells #[.int .i64 ae, .int .i64 ag, .slice ai aw.length ah] 39 (0, 0)) (by (with_reducible repeat (first | refine blk_drewN ?_ _ | refine blk_drew ?_ | refine blk_alloc ?_ _)); refine blk_put (cs := #[.int .i64 ae, .int .i64 ag, .slice ak am.length al]) ?_ 2 _ rfl; (with_reducible repeat (first | refine blk_drewN ?_ _ | refine blk_drew ?_ | refine blk_alloc ?_ _)); exact ab.out) hb); replace HB := Aside0.mk (below_step uB hb); replace aa := Aside0.mk (IsS64.below (show IsS64 w (bi.setCell ⟨aj, 2, none⟩ (.slice ai aw.length ah)) aI l0 bc bd from by repeat (first | (with_reducible first | exact aa.out | apply IsS64.alloc | apply IsS64.drewN | apply IsS64.drew | apply IsS64.set_1 | apply IsS64.set_2 | refine IsS64.far ?_ an.out _ | refine IsS64.far ?_ ao.out _) | exact aa.out)) hb); clear uB; (try clear hb); (try clear hb2); (try clear hk); (try clear hi); (try clear bj)))
 have n0_ := Aside0.mk (Kd.R_drew af.out)
 have n1_ := Aside0.mk (Kd.R_drew aL.out)
 have n2_ := Aside0.mk (Kd.R_drew aN.out)
 have n3_ := Aside0.mk (blk_drew ac.out)
 have n4_ := Aside0.mk (blk_drew ab.out)
 have n5_ := Aside0.mk (IsS64.drew aa.out)
 have n6_ := Aside0.mk (below_drew1 HB.out)
 clear af
 clear aL
 clear aN
 clear ac
 clear ab
 clear aa
 clear HB
 have af := n0_
 have aL := n1_
 have aN := n2_
 have ac := n3_
 have ab := n4_
 have aa := n5_
 have HB := n6_
 clear n0_ n1_ n2_ n3_ n4_ n5_ n6_
 obtain ⟨cY, bm, bX⟩ := Kd.R_slice aN.out
 (first | subst bX | (injection bX with f1_ f2_ f3_; have f4_ := f1_.symm; have f5_ := f3_.symm; clear f1_ f2_ f3_; subst f4_; subst f5_))
 have p286 : 0 ≤ (6 : Int) := (by omega)
 have q286 : 6 < (aP.length : Int) := of_decide_eq_true (by first | (with_reducible assumption) | assumption)
 obtain ⟨ad286, e286, hx286_0⟩ := Kd.at_int (Kd.R_reads' aN.out).2.2 6 p286 q286
 cases e286
 (try simp only [show (6 : Int).toNat = 6 from rfl, Nat.reduceMul, Nat.reduceEqDiff, Go.Addr.add, ↓reduceIte] at hx286_0)
 have qi286 : (6 < aP.length) = True := eq_true (by omega)
 (try rw [show ((6 : Int)).toNat = 6 from rfl] at hx286_0)
 replace p286 := eq_true p286
 replace q286 := eq_true q286
 have p287 : 0 ≤ (7 : Int) := (by omega)
 have q287 : 7 < (aP.length : Int) := of_decide_eq_true (by first | (with_reducible assumption) | assumption)
 obtain ⟨ad287, e287, hx287_0⟩ := Kd.at_int (Kd.R_reads' aN.out).2.2 7 p287 q287
 obtain rfl : ad286 = ad287 := (by injection e287)
 (try simp only [show (7 : Int).toNat = 7 from rfl, Nat.reduceMul, Nat.reduceEqDiff, Go.Addr.add, ↓reduceIte] at hx287_0)
 have qi287 : (7 < aP.length) = True := eq_true (by omega)
 (try rw [show ((7 : Int)).toNat = 7 from rfl] at hx287_0)
 replace p287 := eq_true p287
 replace q287 := eq_true q287
 refine start_ (n := 9) (S := fun w' => w'.cell? ⟨ad286.block, ad286.off + 6, none⟩ = some (.int .u8 (rd aP 6)) ∧ w'.cell? ⟨ad286.block, ad286.off + 7, none⟩ = some (.int .u8 (rd aP 7))) (ds := []) #[false, false, false, false, false, false, false, false, false] (by kernel_rfl) rfl rfl ⟨hx286_0, hx287_0⟩ (fun hHeld => ?_); refine with_tabW spec_DrawEncodeUdp.tab23 spec_DrawEncodeUdp.bits23 (fun HT_ HW_ => ?_)
 generalize aX.drew = dg at af aL aN ac ab aa HB hx286_0 hx287_0 hHeld ⊢
 refine pure_ (i := 0) (N := some 51) (v := ?_) (a' := ?_) #[true, false, false, false, false, false, false, false, false] rfl rfl (any_of HT_.out (by kernel_rfl)) (fun _ _ _ h => h) (Or.inl ⟨by rfl, ?_⟩) ?_ ?_
 rotate_left
 {
 intro w'
 go_simp
 with_reducible rfl
 }
 rotate_left
 {
 simp only [Act.put, List.setIfInBounds_toArray, List.set_cons_zero, List.set_cons_succ, i64_w, i32_w]
 rfl
 }
 refine pure_ (i := 1) (N := some 52) (v := ?_) (a' := ?_) #[true, true, false, false, false, false, false, false, false] rfl rfl (any_of HT_.out (by kernel_rfl)) (fun _ _ _ h => h) (Or.inl ⟨by rfl, ?_⟩) ?_ ?_
 rotate_left
 {
 intro w'
 go_simp
 with_reducible rfl
 }
 rotate_left
 {
 simp only [Act.put, List.setIfInBounds_toArray, List.set_cons_zero, List.set_cons_succ, i64_w, i32_w]
 rfl
 }
 refine pure_ (i := 3) (N := some 54) (v := ?_) (a' := ?_) #[true, true, false, true, false, false, false, false, false] rfl rfl (any_of HT_.out (by kernel_rfl)) (fun _ _ _ h => h) (Or.inl ⟨by rfl, ?_⟩) ?_ ?_
 rotate_left
 {
 intro w'
 go_simp
 with_reducible rfl
 }
 rotate_left
 {
 simp only [Act.put, List.setIfInBounds_toArray, List.set_cons_zero, List.set_cons_succ, i64_w, i32_w]
 rfl
 }
 refine pure_ (i := 4) (N := some 55) (v := ?_) (a' := ?_) #[true, true, false, true, true, false, false, false, false] rfl rfl (any_of HT_.out (by kernel_rfl)) (fun _ _ _ h => h) (Or.inl ⟨by rfl, ?_⟩) ?_ ?_
 rotate_left
 {
 intro w'
 go_simp
 with_reducible rfl
 }
 rotate_left
 {
 simp only [Act.put, List.setIfInBounds_toArray, List.set_cons_zero, List.set_cons_succ, i64_w, i32_w]
 rfl
 }
 refine take_ (i := 2) (N := some 53) (v := ?_) (a' := ?_) #[true, true, true, true, true, false, false, false, false] rfl rfl (take_ofW HT_.out HW_.out (by kernel_rfl)) (fun _ _ _ h => h) (Or.inl ⟨by rfl, ?_⟩) hHeld ?_ ?_
 rotate_left
 {
 rintro w' ⟨s0, s1⟩
 go_simp
 with_reducible rfl
 }
 rotate_left
 {
 simp only [Act.put, List.setIfInBounds_toArray, List.set_cons_zero, List.set_cons_succ, i64_w, i32_w]
 rfl
 }
 refine take_ (i := 5) (N := some 56) (v := ?_) (a' := ?_) #[true, true, true, true, true, true, false, false, false] rfl rfl (take_ofW HT_.out HW_.out (by kernel_rfl)) (fun _ _ _ h => h) (Or.inl ⟨by rfl, ?_⟩) hHeld ?_ ?_
 rotate_left
 {
 rintro w' ⟨s0, s1⟩
 go_simp
 with_reducible rfl
 }
 rotate_left
 {
 simp only [Act.put, List.setIfInBounds_toArray, List.set_cons_zero, List.set_cons_succ, i64_w, i32_w]
 rfl
 }
 refine one_ (i := 6) (N := some 57) #[true, true, true, true, true, true, true, false, false] rfl rfl (one_of HT_.out (by kernel_rfl)) (by decide) (fun K hK => ?_)
 refine Kd.R_lit_step (Kd.int .u8) _ 5 ?hg (N := 57) ?hd (xs := ([rd aP 6, rd aP 7] : List Int)) (inner := [.int .u8 (rd aP 6), .int .u8 (rd aP 7)]) (ok := fun _ => True) (okp := fun _ => True) ?hr ?hp (fun _ hk => hk) trivial (Below.refl _ _) (Nat.le_refl _) (by simp) ?_; (case hd => rfl); (case hg => rfl); (case hr => first | (go_simp; done) | (go_simp; rfl)); (case hp => exact (Reps.one (show Kd.M (Kd.int .u8) _ _ _ (rd aP 6) [.int .u8 (rd aP 6)] from rfl) (Reps.one (show Kd.M (Kd.int .u8) _ _ _ (rd aP 7) [.int .u8 (rd aP 7)] from rfl) (Reps.none _ _))))
 intro dT aK a6 hb hg_ hnew_
 have HS0_ := (hb.cell (World.block_lt_of_cell? _ _ (hHeld.1))).trans (hHeld.1)
 have HS1_ := (hb.cell (World.block_lt_of_cell? _ _ (hHeld.2))).trans (hHeld.2)
 clear hg_ hnew_
 (first | rw [← Ny288.out] at a6 | (simp only [Int.reduceToNat] at a6; rw [← Ny288.out] at a6))
 have n0_ := Aside0.mk (Kd.R_elder' (Rh af) (Kd.R_base a6) hb)
 have n1_ := Aside0.mk (Kd.R_elder' (Rh aL) (Kd.R_base a6) hb)
 have n2_ := Aside0.mk (Kd.R_elder' (Rh aN) (Kd.R_base a6) hb)
 have n3_ := Aside0.mk (Kd.R_lower (Kd.R_new' (Kd.R_new' (Kd.R_new' a6 (Kd.R_lt (Rh af))) (Kd.R_lt (Rh aL))) (Kd.R_lt (Rh aN))) (below_size (by repeat (first | (with_reducible first | exact HB.out | apply below_alloc | apply pw_below_drewN | apply below_drew1 | refine below_set ?_ (IsS64.ge aa.out) | refine below_set ?_ az.out | refine below_set ?_ aF.out) | exact HB.out))))
 have n4_ := Aside0.mk (blk_below (Bh ac) hb)
 have n5_ := Aside0.mk (IsS64.below (by repeat (first | (with_reducible first | exact aa.out | apply IsS64.alloc | apply IsS64.drewN | apply IsS64.drew | apply IsS64.set_1 | apply IsS64.set_2 | refine IsS64.far ?_ an.out _ | refine IsS64.far ?_ ao.out _) | exact aa.out)) hb)
 have n6_ := Aside0.mk (blk_below (Bh ab) hb)
 have n7_ := Aside0.mk (below_step (by repeat (first | (with_reducible first | exact HB.out | apply below_alloc | apply pw_below_drewN | apply below_drew1 | refine below_set ?_ (IsS64.ge aa.out) | refine below_set ?_ az.out | refine below_set ?_ aF.out) | exact HB.out)) hb)
 clear af
 clear aL
 clear aN
 clear ac
 clear aa
 clear ab
 clear HB
 have af := n0_
 have aL := n1_
 have aN := n2_
 have bB := n3_
 have ac := n4_
 have aa := n5_
 have ab := n6_
 have HB := n7_
 clear n0_ n1_ n2_ n3_ n4_ n5_ n6_ n7_
 clear hb a6
 obtain ⟨aA, aB, bY⟩ := Kd.R_slice bB.out
 (first | subst bY | (injection bY with f1_ f2_ f3_; have f4_ := f1_.symm; have f5_ := f3_.symm; clear f1_ f2_ f3_; subst f4_; subst f5_))
 refine hK.out _ _ ⟨HS0_, HS1_⟩ (fun hHeld => ?_)
 clear hK K
 refine norm_ (a' := ?_) ?_ ?_
 rotate_left
 {
 show Act.put _ (some 57) _ = _
 simp only [Act.put, List.setIfInBounds_toArray, List.set_cons_zero, List.set_cons_succ, i64_w, i32_w]
 rfl
 }
 refine pure_ (i := 7) (N := some 58) (v := ?_) (a' := ?_) #[true, true, true, true, true, true, true, true, false] rfl rfl (any_of HT_.out (by kernel_rfl)) (fun _ _ _ h => h) (Or.inl ⟨by rfl, ?_⟩) ?_ ?_
 rotate_left
 {
 intro w'
 go_simp
 with_reducible rfl
 }
 rotate_left
 {
 simp only [Act.put, List.setIfInBounds_toArray, List.set_cons_zero, List.set_cons_succ, i64_w, i32_w]
 rfl
 }
 refine one_ (i := 8) (N := none) #[true, true, true, true, true, true, true, true, true] rfl rfl (one_of HT_.out (by kernel_rfl)) (by decide) (fun K hK => ?_)
 have hs1027 : aK.cell? ⟨aj, 2, none⟩ = some (.slice ai aw.length ah) := (blk_cell ab.out 2).trans rfl
 have hfs1027 := blk_frozen ab.out 2
 have hns1027_0 := aJ.out
 have hms1027_0 := ap.out
 refine skip_ (w1 := ?_) (by rfl) rfl ?_ ?_
 rotate_left
 {
 go_simp
 rfl
 }
 refine hK.out _ _ ⟨((cell_far (p := ⟨aj, _, none⟩) (by first | exact Kd.own_blk (Kd.R_ne aN.out ab.out (by decide)) | (rw [add_block]; exact Kd.own_blk (Kd.R_ne aN.out ab.out (by decide))) | (show (Addr.add _ _).block ≠ _; rw [add_block]; exact Kd.own_blk (Kd.R_ne aN.out ab.out (by decide))) | (dsimp only; exact Kd.own_blk (Kd.R_ne aN.out ab.out (by decide)))) _).trans (hHeld.1)), ((cell_far (p := ⟨aj, _, none⟩) (by first | exact Kd.own_blk (Kd.R_ne aN.out ab.out (by decide)) | (rw [add_block]; exact Kd.own_blk (Kd.R_ne aN.out ab.out (by decide))) | (show (Addr.add _ _).block ≠ _; rw [add_block]; exact Kd.own_blk (Kd.R_ne aN.out ab.out (by decide))) | (dsimp only; exact Kd.own_blk (Kd.R_ne aN.out ab.out (by decide)))) _).trans (hHeld.2))⟩ (fun hHeld => ?_)
 clear hK K
 refine done_ (done_of HT_.out (by kernel_rfl)) ?_
 obtain ⟨⟨cC, cD, cE⟩, cF, cG, cH⟩ := cells3 ab.out
 obtain ⟨⟨cI, cJ, cK⟩, cL, cM, cN⟩ := cells3 ac.out
 try go_wp2_with (first | ((with_reducible refine gate_store (t := 39) (p := 2) rfl ?_); (try (rw [drewN_self aK]; generalize hq_ : World.drewN aK _ = aK; replace af := Aside0.mk (Kd.R_at hq_ af.out); replace aL := Aside0.mk (Kd.R_at hq_ aL.out); replace aN := Aside0.mk (Kd.R_at hq_ aN.out); replace bB := Aside0.mk (Kd.R_at hq_ bB.out); replace ac := Aside0.mk (blk_at hq_ ac.out); replace ab := Aside0.mk (blk_at hq_ ab.out); replace aa := Aside0.mk (IsS64.at_ hq_ aa.out); replace HB := Aside0.mk (below_at hq_ HB.out); clear hq_; (try (obtain ⟨⟨aR, aS, aT⟩, aU, aV, aW⟩ := cells3 ac.out)); (try (obtain ⟨⟨aZ, a0, a1⟩, a2, a3, a4⟩ := cells3 ab.out)))); refine store_event (t := 39) (p := 2) (v := ?_) (w1 := ((((aK.setCell ⟨aj, 2, none⟩ (.slice aA ba.length aB)).setCell ⟨ad, 0, none⟩ (.int .i64 ae)).setCell ⟨ad, 1, none⟩ (.int .i64 ag)).setCell ⟨ad, 2, none⟩ (.slice aA ba.length aB))) ?hg ?ho ?hn ?hr ?_; (case ho => rfl); (case hg => rfl); (case hn => rfl); (case hr => first | (go_simp; done) | (go_simp; rfl)); intro a8 hw; have n0_ : Aside0 (Kd.R (Kd.int .u8) 5 a8 w.heap.size (fun k_ => some k_ ≠ (.slice ai aw.length ah : Value).ownBlock ∧ some k_ ≠ (.slice (some ad286) aP.length bm : Value).ownBlock ∧ some k_ ≠ (.slice aA ba.length aB : Value).ownBlock) (.slice ak am.length al) am) := ⟨(by rw [hw]; exact (by (with_reducible repeat (first | apply Kd.R_alloc | apply Kd.R_drewN | apply Kd.R_drew)); exact Kd.R_mono (Kd.R_far (p := ⟨ad, 2, none⟩) (Kd.R_far (p := ⟨ad, 1, none⟩) (Kd.R_far (p := ⟨ad, 0, none⟩) (Kd.R_far (p := ⟨aj, 2, none⟩) (Kd.R_types (Kd.R_types af.out ab.out (by decide)) ac.out (by decide)) (fun _ hk => hk.1.2) (.slice aA ba.length aB)) (fun _ hk => hk.2) (.int .i64 ae)) (fun _ hk => hk.2) (.int .i64 ag)) (fun _ hk => hk.2) (.slice aA ba.length aB)) (fun _ hk => ⟨hk.1.1.1.1.2, ⟨hk.1.1.1.2, hk.1.1.2⟩⟩)))⟩; have n1_ : Aside0 (Kd.R (Kd.int .u8) 5 a8 w.heap.size (fun k_ => some k_ ≠ (.slice ak am.length al : Value).ownBlock ∧ some k_ ≠ (.slice (some ad286) aP.length bm : Value).ownBlock ∧ some k_ ≠ (.slice aA ba.length aB : Value).ownBlock) (.slice ai aw.length ah) aw) := ⟨(by rw [hw]; exact (by (with_reducible repeat (first | apply Kd.R_alloc | apply Kd.R_drewN | apply Kd.R_drew)); exact Kd.R_mono (Kd.R_far (p := ⟨ad, 2, none⟩) (Kd.R_far (p := ⟨ad, 1, none⟩) (Kd.R_far (p := ⟨ad, 0, none⟩) (Kd.R_far (p := ⟨aj, 2, none⟩) (Kd.R_types (Kd.R_types aL.out ab.out (by decide)) ac.out (by decide)) (fun _ hk => hk.1.2) (.slice aA ba.length aB)) (fun _ hk => hk.2) (.int .i64 ae)) (fun _ hk => hk.2) (.int .i64 ag)) (fun _ hk => hk.2) (.slice aA ba.length aB)) (fun _ hk => ⟨hk.1.1.1.1.2, ⟨hk.1.1.1.2, hk.1.1.2⟩⟩)))⟩; have n2_ : Aside0 (Kd.R (Kd.int .u8) 5 a8 w.heap.size (fun k_ => some k_ ≠ (.slice ak am.length al : Value).ownBlock ∧ some k_ ≠ (.slice ai aw.length ah : Value).ownBlock ∧ some k_ ≠ (.slice aA ba.length aB : Value).ownBlock) (.slice (some ad286) aP.length bm) aP) := ⟨(by rw [hw]; exact (by (with_reducible repeat (first | apply Kd.R_alloc | apply Kd.R_drewN | apply Kd.R_drew)); exact Kd.R_mono (Kd.R_far (p := ⟨ad, 2, none⟩) (Kd.R_far (p := ⟨ad, 1, none⟩) (Kd.R_far (p := ⟨ad, 0, none⟩) (Kd.R_far (p := ⟨aj, 2, none⟩) (Kd.R_types (Kd.R_types aN.out ab.out (by decide)) ac.out (by decide)) (fun _ hk => hk.1.2) (.slice aA ba.length aB)) (fun _ hk => hk.2) (.int .i64 ae)) (fun _ hk => hk.2) (.int .i64 ag)) (fun _ hk => hk.2) (.slice aA ba.length aB)) (fun _ hk => ⟨hk.1.1.1.1.2, ⟨hk.1.1.1.2, hk.1.1.2⟩⟩)))⟩; have n3_ : Aside0 (Kd.R (Kd.int .u8) 5 a8 w.heap.size (fun k_ => some k_ ≠ (.slice ak am.length al : Value).ownBlock ∧ some k_ ≠ (.slice ai aw.length ah : Value).ownBlock ∧ some k_ ≠ (.slice (some ad286) aP.length bm : Value).ownBlock) (.slice aA ba.length aB) ba) := ⟨(by rw [hw]; exact (by (with_reducible repeat (first | apply Kd.R_alloc | apply Kd.R_drewN | apply Kd.R_drew)); exact Kd.R_mono (Kd.R_far (p := ⟨ad, 2, none⟩) (Kd.R_far (p := ⟨ad, 1, none⟩) (Kd.R_far (p := ⟨ad, 0, none⟩) (Kd.R_far (p := ⟨aj, 2, none⟩) (Kd.R_types (Kd.R_types bB.out ab.out (by decide)) ac.out (by decide)) (fun _ hk => hk.1.2) (.slice aA ba.length aB)) (fun _ hk => hk.2) (.int .i64 ae)) (fun _ hk => hk.2) (.int .i64 ag)) (fun _ hk => hk.2) (.slice aA ba.length aB)) (fun _ hk => ⟨hk.1.1.1.1.2, ⟨hk.1.1.1.2, hk.1.1.2⟩⟩)))⟩; have n4_ : Aside0 (a8.heap[ad]? = some (.cells #[.int .i64 ae, .int .i64 ag, .slice aA ba.length aB] 39 (0, 0))) := ⟨(by rw [hw]; exact (by (with_reducible repeat (first | refine blk_drewN ?_ _ | refine blk_drew ?_ | refine blk_alloc ?_ _)); refine blk_put (cs := #[.int .i64 ae, .int .i64 ag, .slice none 0 0]) ?_ 2 _ rfl; (with_reducible repeat (first | refine blk_drewN ?_ _ | refine blk_drew ?_ | refine blk_alloc ?_ _)); refine blk_put (cs := #[.int .i64 ae, .int .i64 0, .slice none 0 0]) ?_ 1 _ rfl; (with_reducible repeat (first | refine blk_drewN ?_ _ | refine blk_drew ?_ | refine blk_alloc ?_ _)); refine blk_put (cs := #[.int .i64 0, .int .i64 0, .slice none 0 0]) ?_ 0 _ rfl; (with_reducible repeat (first | refine blk_drewN ?_ _ | refine blk_drew ?_ | refine blk_alloc ?_ _)); refine blk_far ?_ aJ.out _; (with_reducible repeat (first | refine blk_drewN ?_ _ | refine blk_drew ?_ | refine blk_alloc ?_ _)); exact ac.out))⟩; have n5_ : Aside0 (a8.heap[aj]? = some (.cells #[.int .i64 ae, .int .i64 ag, .slice aA ba.length aB] 39 (0, 0))) := ⟨(by rw [hw]; exact (by (with_reducible repeat (first | refine blk_drewN ?_ _ | refine blk_drew ?_ | refine blk_alloc ?_ _)); refine blk_far ?_ ap.out _; (with_reducible repeat (first | refine blk_drewN ?_ _ | refine blk_drew ?_ | refine blk_alloc ?_ _)); refine blk_far ?_ ap.out _; (with_reducible repeat (first | refine blk_drewN ?_ _ | refine blk_drew ?_ | refine blk_alloc ?_ _)); refine blk_far ?_ ap.out _; (with_reducible repeat (first | refine blk_drewN ?_ _ | refine blk_drew ?_ | refine blk_alloc ?_ _)); refine blk_put (cs := #[.int .i64 ae, .int .i64 ag, .slice ai aw.length ah]) ?_ 2 _ rfl; (with_reducible repeat (first | refine blk_drewN ?_ _ | refine blk_drew ?_ | refine blk_alloc ?_ _)); exact ab.out))⟩; have n6_ : Aside0 (IsS64 w a8 aI l0 bc bd) := ⟨(by rw [hw]; exact (by repeat (first | (with_reducible first | exact aa.out | apply IsS64.alloc | apply IsS64.drewN | apply IsS64.drew | apply IsS64.set_1 | apply IsS64.set_2 | refine IsS64.far ?_ an.out _ | refine IsS64.far ?_ ao.out _) | exact aa.out)))⟩; have n7_ : Aside0 (Below w.heap.size w a8) := ⟨(by rw [hw]; exact (by repeat (first | (with_reducible first | exact HB.out | apply below_alloc | apply pw_below_drewN | apply below_drew1 | refine below_set ?_ (IsS64.ge aa.out) | refine below_set ?_ az.out | refine below_set ?_ aF.out) | exact HB.out)))⟩; clear hw; clear af; clear aL; clear aN; clear bB; clear ac; clear ab; clear aa; clear HB; have af := n0_; have aL := n1_; have aN := n2_; have bB := n3_; have ac := n4_; have ab := n5_; have aa := n6_; have HB := n7_; clear n0_ n1_ n2_ n3_ n4_ n5_ n6_ n7_))
 refine bodyPost_ret (results_ctt rfl _ _ ad 39 #[.int .i64 ae, .int .i64 ag, .slice aA ba.length aB] (0, 0) _ rfl (Bh ac) Try.underlying39 rfl (by kernel_rfl)) rfl ?_
 exact ⟨_, by first | rfl | (simp [errW_none, errW_some] <;> rfl) | (simp [*, errW_none, errW_some] <;> rfl), Kd.R_mono (Rh bB) (fun _ hk => trivial), by repeat (first | (with_reducible first | exact HB.out | apply below_alloc | apply pw_below_drewN | apply below_drew1 | refine below_set ?_ (IsS64.ge aa.out) | refine below_set ?_ az.out | refine below_set ?_ aF.out) | exact HB.out)⟩
 }
 {
 go_wp2_with (first | ((with_reducible refine gate_dst (N := 40) rfl ?_); refine Kd.R_lit (Kd.int .u8) _ 5 ?hg (N := 40) ?hd (xs := ([0, 0] : List Int)) (inner := [.int .u8 0, .int .u8 0]) (ok := fun _ => True) (okp := fun _ => True) ?hr ?hp (fun _ hk => hk) trivial (Below.refl _ _) (Nat.le_refl _) (by simp) ?_; (case hd => rfl); (case hg => rfl); (case hr => first | (go_simp; done) | (go_simp; rfl)); (case hp => exact (Reps.one (show Kd.M (Kd.int .u8) _ _ _ 0 [.int .u8 0] from rfl) (Reps.one (show Kd.M (Kd.int .u8) _ _ _ 0 [.int .u8 0] from rfl) (Reps.none _ _)))); intro dB bi aE hb hg_ hnew_; clear hg_ hnew_; (first | rw [← Ny279.out] at aE | (simp only [Int.reduceToNat] at aE; rw [← Ny279.out] at aE)); have uB := below_pre (n := w.heap.size) (w := w) hb (by repeat (first | (with_reducible first | exact HB.out | apply below_alloc | apply pw_below_drewN | apply below_drew1 | refine below_set ?_ (IsS64.ge aa.out) | refine below_set ?_ az.out | refine below_set ?_ aF.out) | exact HB.out)); have aL := Aside0.mk (Kd.R_lower (Kd.R_new' aE (Kd.R_lt (Rh af))) (below_size uB)); replace af := Aside0.mk (Kd.R_elder' (Rh af) (Kd.R_base aE) hb); replace ac := Aside0.mk (blk_below (Bh ac) hb); replace ab := Aside0.mk (blk_below (Bh ab) hb); replace HB := Aside0.mk (below_step uB hb); replace aa := Aside0.mk (IsS64.below (by repeat (first | (with_reducible first | exact aa.out | apply IsS64.alloc | apply IsS64.drewN | apply IsS64.drew | apply IsS64.set_1 | apply IsS64.set_2 | refine IsS64.far ?_ an.out _ | refine IsS64.far ?_ ao.out _) | exact aa.out)) hb); clear uB; clear hb aE; obtain ⟨ai, ah, bl⟩ := Kd.R_slice aL.out; subst bl; obtain ⟨⟨br, bs, bu⟩, bv, bw, bx⟩ := cells3 ab.out) | ((with_reducible refine gate_callee (f := 15) rfl ?_); refine goesL_ (some 46) rfl rfl Try.func15 (by kernel_rfl) rfl #[.agg #[.int .i64 ae, .int .i64 ag, .slice ai aw.length ah], .int .i64 av, .int .i64 aG] rfl wT ?_; (with_reducible refine (spec_EncodeUdp.calls k ae ag _ _ aw av aG aP bD _ ?side1 ?side2 A18.out).mono ?_); (case side1 => refine (Kd.R_reads' (e := 5) (base := w.heap.size) (ok := fun k_ => (True ∧ some k_ ≠ (.slice ak am.length al : Value).ownBlock)) (n := aw.length) (c := ah) ?_).2.2; exact (by (with_reducible repeat (first | apply Kd.R_alloc | apply Kd.R_drewN | apply Kd.R_drew)); exact (Kd.R_mono (Kd.R_far (p := ⟨aj, 2, none⟩) (Kd.R_types aL.out ab.out (by decide)) (fun _ hk => hk.2) (.slice ai aw.length ah)) (fun _ h_ => h_.1)))); (case side2 => exact (Kd.R_reads' aL.out).2.1); rintro e aX ⟨cy, rfl, bj, hb⟩; refine ⟨_, rfl, ?_⟩; have uB := below_pre (n := w.heap.size) (w := w) hb (by repeat (first | (with_reducible first | exact HB.out | apply below_alloc | apply pw_below_drewN | apply below_drew1 | refine below_set ?_ (IsS64.ge aa.out) | refine below_set ?_ az.out | refine below_set ?_ aF.out) | exact HB.out)); have aN := Aside0.mk (Kd.R_lower (Kd.R_new' (Kd.R_new' bj (Kd.R_lt (by (with_reducible repeat (first | apply Kd.R_alloc | apply Kd.R_drewN | apply Kd.R_drew)); exact (Kd.R_mono (Kd.R_far (p := ⟨aj, 2, none⟩) (Kd.R_types af.out ab.out (by decide)) (fun _ hk => hk.2) (.slice ai aw.length ah)) (fun _ h_ => h_.1))))) (Kd.R_lt (by (with_reducible repeat (first | apply Kd.R_alloc | apply Kd.R_drewN | apply Kd.R_drew)); exact (Kd.R_mono (Kd.R_far (p := ⟨aj, 2, none⟩) (Kd.R_types aL.out ab.out (by decide)) (fun _ hk => hk.2) (.slice ai aw.length ah)) (fun _ h_ => h_.1))))) (below_size uB)); replace af := Aside0.mk (Kd.R_elder' (by (with_reducible repeat (first | apply Kd.R_alloc | apply Kd.R_drewN | apply Kd.R_drew)); exact (Kd.R_mono (Kd.R_far (p := ⟨aj, 2, none⟩) (Kd.R_types af.out ab.out (by decide)) (fun _ hk => hk.2) (.slice ai aw.length ah)) (fun _ h_ => h_.1))) (Kd.R_base bj) hb); replace aL := Aside0.mk (Kd.R_elder' (by (with_reducible repeat (first | apply Kd.R_alloc | apply Kd.R_drewN | apply Kd.R_drew)); exact (Kd.R_mono (Kd.R_far (p := ⟨aj, 2, none⟩) (Kd.R_types aL.out ab.out (by decide)) (fun _ hk => hk.2) (.slice ai aw.length ah)) (fun _ h_ => h_.1))) (Kd.R_base bj) hb); replace ac := Aside0.mk (blk_below (g := ad) (o := .cells #[.int .i64 0, .int .i64 0, .slice none 0 0] 39 (0, 0)) (by (with_reducible repeat (first | refine blk_drewN ?_ _ | refine blk_drew ?_ | refine blk_alloc ?_ _)); refine blk_far ?_ aJ.out _; (with_reducible repeat (first | refine blk_drewN ?_ _ | refine blk_drew ?_ | refine blk_alloc ?_ _)); exact ac.out) hb); replace ab := Aside0.mk (blk_below (g := aj) (o := .cells #[.int .i64 ae, .int .i64 ag, .slice ai aw.length ah] 39 (0, 0)) (by (with_reducible repeat (first | refine blk_drewN ?_ _ | refine blk_drew ?_ | refine blk_alloc ?_ _)); refine blk_put (cs := #[.int .i64 ae, .int .i64 ag, .slice ak am.length al]) ?_ 2 _ rfl; (with_reducible repeat (first | refine blk_drewN ?_ _ | refine blk_drew ?_ | refine blk_alloc ?_ _)); exact ab.out) hb); replace HB := Aside0.mk (below_step uB hb); replace aa := Aside0.mk (IsS64.below (show IsS64 w (bi.setCell ⟨aj, 2, none⟩ (.slice ai aw.length ah)) aI l0 bc bd from by repeat (first | (with_reducible first | exact aa.out | apply IsS64.alloc | apply IsS64.drewN | apply IsS64.drew | apply IsS64.set_1 | apply IsS64.set_2 | refine IsS64.far ?_ an.out _ | refine IsS64.far ?_ ao.out _) | exact aa.out)) hb); clear uB; (try clear hb); (try clear hb2); (try clear hk); (try clear hi); (try clear bj); obtain ⟨⟨bR, bS, bT⟩, bU, bV, bW⟩ := cells3 ab.out; obtain ⟨⟨cc, cd, ce⟩, cf, cg, ch⟩ := cells3 ac.out) | ((with_reducible refine gate_store (t := 39) (p := 2) rfl ?_); (try (rw [drewN_self aX]; generalize hq_ : World.drewN aX _ = aX; replace af := Aside0.mk (Kd.R_at hq_ af.out); replace aL := Aside0.mk (Kd.R_at hq_ aL.out); replace aN := Aside0.mk (Kd.R_at hq_ aN.out); replace ac := Aside0.mk (blk_at hq_ ac.out); replace ab := Aside0.mk (blk_at hq_ ab.out); replace aa := Aside0.mk (IsS64.at_ hq_ aa.out); replace HB := Aside0.mk (below_at hq_ HB.out); clear hq_; (try (obtain ⟨⟨aR, aS, aT⟩, aU, aV, aW⟩ := cells3 ac.out)); (try (obtain ⟨⟨aZ, a0, a1⟩, a2, a3, a4⟩ := cells3 ab.out)))); refine store_event (t := 39) (p := 2) (v := ?_) (w1 := (((aX.setCell ⟨ad, 0, none⟩ (.int .i64 ae)).setCell ⟨ad, 1, none⟩ (.int .i64 ag)).setCell ⟨ad, 2, none⟩ (.slice ai aw.length ah))) ?hg ?ho ?hn ?hr ?_; (case ho => rfl); (case hg => rfl); (case hn => rfl); (case hr => first | (go_simp; done) | (go_simp; rfl)); intro aK hw; have n0_ : Aside0 (Kd.R (Kd.int .u8) 5 aK w.heap.size (fun k_ => some k_ ≠ (.slice ai aw.length ah : Value).ownBlock ∧ some k_ ≠ (cy : Value).ownBlock) (.slice ak am.length al) am) := ⟨(by rw [hw]; exact (by (with_reducible repeat (first | apply Kd.R_alloc | apply Kd.R_drewN | apply Kd.R_drew)); exact Kd.R_mono (Kd.R_far (p := ⟨ad, 2, none⟩) (Kd.R_far (p := ⟨ad, 1, none⟩) (Kd.R_far (p := ⟨ad, 0, none⟩) (Kd.R_types af.out ac.out (by decide)) (fun _ hk => hk.2) (.int .i64 ae)) (fun _ hk => hk.2) (.int .i64 ag)) (fun _ hk => hk.2) (.slice ai aw.length ah)) (fun _ hk => ⟨hk.1.1.2, hk.1.2⟩)))⟩; have n1_ : Aside0 (Kd.R (Kd.int .u8) 5 aK w.heap.size (fun k_ => some k_ ≠ (.slice ak am.length al : Value).ownBlock ∧ some k_ ≠ (cy : Value).ownBlock) (.slice ai aw.length ah) aw) := ⟨(by rw [hw]; exact (by (with_reducible repeat (first | apply Kd.R_alloc | apply Kd.R_drewN | apply Kd.R_drew)); exact Kd.R_mono (Kd.R_far (p := ⟨ad, 2, none⟩) (Kd.R_far (p := ⟨ad, 1, none⟩) (Kd.R_far (p := ⟨ad, 0, none⟩) (Kd.R_types aL.out ac.out (by decide)) (fun _ hk => hk.2) (.int .i64 ae)) (fun _ hk => hk.2) (.int .i64 ag)) (fun _ hk => hk.2) (.slice ai aw.length ah)) (fun _ hk => ⟨hk.1.1.2, hk.1.2⟩)))⟩; have n2_ : Aside0 (Kd.R (Kd.int .u8) 5 aK w.heap.size (fun k_ => some k_ ≠ (.slice ak am.length al : Value).ownBlock ∧ some k_ ≠ (.slice ai aw.length ah : Value).ownBlock) cy aP) := ⟨(by rw [hw]; exact (by (with_reducible repeat (first | apply Kd.R_alloc | apply Kd.R_drewN | apply Kd.R_drew)); exact Kd.R_mono (Kd.R_far (p := ⟨ad, 2, none⟩) (Kd.R_far (p := ⟨ad, 1, none⟩) (Kd.R_far (p := ⟨ad, 0, none⟩) (Kd.R_types aN.out ac.out (by decide)) (fun _ hk => hk.2) (.int .i64 ae)) (fun _ hk => hk.2) (.int .i64 ag)) (fun _ hk => hk.2) (.slice ai aw.length ah)) (fun _ hk => ⟨hk.1.1.2, hk.1.2⟩)))⟩; have n3_ : Aside0 (aK.heap[ad]? = some (.cells #[.int .i64 ae, .int .i64 ag, .slice ai aw.length ah] 39 (0, 0))) := ⟨(by rw [hw]; exact (by (with_reducible repeat (first | refine blk_drewN ?_ _ | refine blk_drew ?_ | refine blk_alloc ?_ _)); refine blk_put (cs := #[.int .i64 ae, .int .i64 ag, .slice none 0 0]) ?_ 2 _ rfl; (with_reducible repeat (first | refine blk_drewN ?_ _ | refine blk_drew ?_ | refine blk_alloc ?_ _)); refine blk_put (cs := #[.int .i64 ae, .int .i64 0, .slice none 0 0]) ?_ 1 _ rfl; (with_reducible repeat (first | refine blk_drewN ?_ _ | refine blk_drew ?_ | refine blk_alloc ?_ _)); refine blk_put (cs := #[.int .i64 0, .int .i64 0, .slice none 0 0]) ?_ 0 _ rfl; (with_reducible repeat (first | refine blk_drewN ?_ _ | refine blk_drew ?_ | refine blk_alloc ?_ _)); exact ac.out))⟩; have n4_ : Aside0 (aK.heap[aj]? = some (.cells #[.int .i64 ae, .int .i64 ag, .slice ai aw.length ah] 39 (0, 0))) := ⟨(by rw [hw]; exact (by (with_reducible repeat (first | refine blk_drewN ?_ _ | refine blk_drew ?_ | refine blk_alloc ?_ _)); refine blk_far ?_ ap.out _; (with_reducible repeat (first | refine blk_drewN ?_ _ | refine blk_drew ?_ | refine blk_alloc ?_ _)); refine blk_far ?_ ap.out _; (with_reducible repeat (first | refine blk_drewN ?_ _ | refine blk_drew ?_ | refine blk_alloc ?_ _)); refine blk_far ?_ ap.out _; (with_reducible repeat (first | refine blk_drewN ?_ _ | refine blk_drew ?_ | refine blk_alloc ?_ _)); exact ab.out))⟩; have n5_ : Aside0 (IsS64 w aK aI l0 bc bd) := ⟨(by rw [hw]; exact (by repeat (first | (with_reducible first | exact aa.out | apply IsS64.alloc | apply IsS64.drewN | apply IsS64.drew | apply IsS64.set_1 | apply IsS64.set_2 | refine IsS64.far ?_ an.out _ | refine IsS64.far ?_ ao.out _) | exact aa.out)))⟩; have n6_ : Aside0 (Below w.heap.size w aK) := ⟨(by rw [hw]; exact (by repeat (first | (with_reducible first | exact HB.out | apply below_alloc | apply pw_below_drewN | apply below_drew1 | refine below_set ?_ (IsS64.ge aa.out) | refine below_set ?_ az.out | refine below_set ?_ aF.out) | exact HB.out)))⟩; clear hw; clear af; clear aL; clear aN; clear ac; clear ab; clear aa; clear HB; have af := n0_; have aL := n1_; have aN := n2_; have ac := n3_; have ab := n4_; have aa := n5_; have HB := n6_; clear n0_ n1_ n2_ n3_ n4_ n5_ n6_))
 refine bodyPost_ret (results_ctt rfl _ _ ad 39 #[.int .i64 ae, .int .i64 ag, .slice ai aw.length ah] (0, 0) _ rfl (Bh ac) Try.underlying39 rfl (by kernel_rfl)) rfl ?_
 exact ⟨_, by first | rfl | (simp [errW_none, errW_some] <;> rfl) | (simp [*, errW_none, errW_some] <;> rfl), Kd.R_mono (Rh aL) (fun _ hk => trivial), by repeat (first | (with_reducible first | exact HB.out | apply below_alloc | apply pw_below_drewN | apply below_drew1 | refine below_set ?_ (IsS64.ge aa.out) | refine below_set ?_ az.out | refine below_set ?_ aF.out) | exact HB.out)⟩
 }
 {
 try go_wp2_with (first | ((with_reducible refine gate_dst (N := 40) rfl ?_); refine Kd.R_lit (Kd.int .u8) _ 5 ?hg (N := 40) ?hd (xs := ([0, 0] : List Int)) (inner := [.int .u8 0, .int .u8 0]) (ok := fun _ => True) (okp := fun _ => True) ?hr ?hp (fun _ hk => hk) trivial (Below.refl _ _) (Nat.le_refl _) (by simp) ?_; (case hd => rfl); (case hg => rfl); (case hr => first | (go_simp; done) | (go_simp; rfl)); (case hp => exact (Reps.one (show Kd.M (Kd.int .u8) _ _ _ 0 [.int .u8 0] from rfl) (Reps.one (show Kd.M (Kd.int .u8) _ _ _ 0 [.int .u8 0] from rfl) (Reps.none _ _)))); intro dC bi aE hb hg_ hnew_; clear hg_ hnew_; (first | rw [← Ny291.out] at aE | (simp only [Int.reduceToNat] at aE; rw [← Ny291.out] at aE)); have uB := below_pre (n := w.heap.size) (w := w) hb (by repeat (first | (with_reducible first | exact HB.out | apply below_alloc | apply pw_below_drewN | apply below_drew1 | refine below_set ?_ (IsS64.ge aa.out) | refine below_set ?_ az.out | refine below_set ?_ aF.out) | exact HB.out)); have aM := Aside0.mk (Kd.R_lower (Kd.R_new' aE (Kd.R_lt (Rh af))) (below_size uB)); replace af := Aside0.mk (Kd.R_elder' (Rh af) (Kd.R_base aE) hb); replace ac := Aside0.mk (blk_below (Bh ac) hb); replace ab := Aside0.mk (blk_below (Bh ab) hb); replace HB := Aside0.mk (below_step uB hb); replace aa := Aside0.mk (IsS64.below (by repeat (first | (with_reducible first | exact aa.out | apply IsS64.alloc | apply IsS64.drewN | apply IsS64.drew | apply IsS64.set_1 | apply IsS64.set_2 | refine IsS64.far ?_ an.out _ | refine IsS64.far ?_ ao.out _) | exact aa.out)) hb); clear uB; clear hb aE; obtain ⟨ai, ah, bl⟩ := Kd.R_slice aM.out; subst bl; obtain ⟨⟨br, bs, bu⟩, bv, bw, bx⟩ := cells3 ab.out) | ((with_reducible refine gate_callee (f := 15) rfl ?_); refine goesL_ (some 46) rfl rfl Try.func15 (by kernel_rfl) rfl #[.agg #[.int .i64 ae, .int .i64 ag, .slice ai ax.length ah], .int .i64 av, .int .i64 aG] rfl wT ?_; (with_reducible refine (spec_EncodeUdp.calls k ae ag _ _ ax av aG aQ bE _ ?side1 ?side2 A23.out).mono ?_); (case side1 => refine (Kd.R_reads' (e := 5) (base := w.heap.size) (ok := fun k_ => (True ∧ some k_ ≠ (.slice ak am.length al : Value).ownBlock)) (n := ax.length) (c := ah) ?_).2.2; exact (by (with_reducible repeat (first | apply Kd.R_alloc | apply Kd.R_drewN | apply Kd.R_drew)); exact (Kd.R_mono (Kd.R_far (p := ⟨aj, 2, none⟩) (Kd.R_types aM.out ab.out (by decide)) (fun _ hk => hk.2) (.slice ai ax.length ah)) (fun _ h_ => h_.1)))); (case side2 => exact (Kd.R_reads' aM.out).2.1); rintro e aX ⟨cz, rfl, bj, hb⟩; refine ⟨_, rfl, ?_⟩; have uB := below_pre (n := w.heap.size) (w := w) hb (by repeat (first | (with_reducible first | exact HB.out | apply below_alloc | apply pw_below_drewN | apply below_drew1 | refine below_set ?_ (IsS64.ge aa.out) | refine below_set ?_ az.out | refine below_set ?_ aF.out) | exact HB.out)); have aO := Aside0.mk (Kd.R_lower (Kd.R_new' (Kd.R_new' bj (Kd.R_lt (by (with_reducible repeat (first | apply Kd.R_alloc | apply Kd.R_drewN | apply Kd.R_drew)); exact (Kd.R_mono (Kd.R_far (p := ⟨aj, 2, none⟩) (Kd.R_types af.out ab.out (by decide)) (fun _ hk => hk.2) (.slice ai ax.length ah)) (fun _ h_ => h_.1))))) (Kd.R_lt (by (with_reducible repeat (first | apply Kd.R_alloc | apply Kd.R_drewN | apply Kd.R_drew)); exact (Kd.R_mono (Kd.R_far (p := ⟨aj, 2, none⟩) (Kd.R_types aM.out ab.out (by decide)) (fun _ hk => hk.2) (.slice ai ax.length ah)) (fun _ h_ => h_.1))))) (below_size uB)); replace af := Aside0.mk (Kd.R_elder' (by (with_reducible repeat (first | apply Kd.R_alloc | apply Kd.R_drewN | apply Kd.R_drew)); exact (Kd.R_mono (Kd.R_far (p := ⟨aj, 2, none⟩) (Kd.R_types af.out ab.out (by decide)) (fun _ hk => hk.2) (.slice ai ax.length ah)) (fun _ h_ => h_.1))) (Kd.R_base bj) hb); replace aM := Aside0.mk (Kd.R_elder' (by (with_reducible repeat (first | apply Kd.R_alloc | apply Kd.R_drewN | apply Kd.R_drew)); exact (Kd.R_mono (Kd.R_far (p := ⟨aj, 2, none⟩) (Kd.R_types aM.out ab.out (by decide)) (fun _ hk => hk.2) (.slice ai ax.length ah)) (fun _ h_ => h_.1))) (Kd.R_base bj) hb); replace ac := Aside0.mk (blk_below (g := ad) (o := .cells #[.int .i64 0, .int .i64 0, .slice none 0 0] 39 (0, 0)) (by (with_reducible repeat (first | refine blk_drewN ?_ _ | refine blk_drew ?_ | refine blk_alloc ?_ _)); refine blk_far ?_ aJ.out _; (with_reducible repeat (first | refine blk_drewN ?_ _ | refine blk_drew ?_ | refine blk_alloc ?_ _)); exact ac.out) hb); replace ab := Aside0.mk (blk_below (g := aj) (o := .cells #[.int .i64 ae, .int .i64 ag, .slice ai ax.length ah] 39 (0, 0)) (by (with_reducible repeat (first | refine blk_drewN ?_ _ | refine blk_drew ?_ | refine blk_alloc ?_ _)); refine blk_put (cs := #[.int .i64 ae, .int .i64 ag, .slice ak am.length al]) ?_ 2 _ rfl; (with_reducible repeat (first | refine blk_drewN ?_ _ | refine blk_drew ?_ | refine blk_alloc ?_ _)); exact ab.out) hb); replace HB := Aside0.mk (below_step uB hb); replace aa := Aside0.mk (IsS64.below (show IsS64 w (bi.setCell ⟨aj, 2, none⟩ (.slice ai ax.length ah)) aI l0 bc bd from by repeat (first | (with_reducible first | exact aa.out | apply IsS64.alloc | apply IsS64.drewN | apply IsS64.drew | apply IsS64.set_1 | apply IsS64.set_2 | refine IsS64.far ?_ an.out _ | refine IsS64.far ?_ ao.out _) | exact aa.out)) hb); clear uB; (try clear hb); (try clear hb2); (try clear hk); (try clear hi); (try clear bj)))
 have n0_ := Aside0.mk (Kd.R_drew af.out)
 have n1_ := Aside0.mk (Kd.R_drew aM.out)
 have n2_ := Aside0.mk (Kd.R_drew aO.out)
 have n3_ := Aside0.mk (blk_drew ac.out)
 have n4_ := Aside0.mk (blk_drew ab.out)
 have n5_ := Aside0.mk (IsS64.drew aa.out)
 have n6_ := Aside0.mk (below_drew1 HB.out)
 clear af
 clear aM
 clear aO
 clear ac
 clear ab
 clear aa
 clear HB
 have af := n0_
 have aM := n1_
 have aO := n2_
 have ac := n3_
 have ab := n4_
 have aa := n5_
 have HB := n6_
 clear n0_ n1_ n2_ n3_ n4_ n5_ n6_
 obtain ⟨cY, bm, bX⟩ := Kd.R_slice aO.out
 (first | subst bX | (injection bX with f1_ f2_ f3_; have f4_ := f1_.symm; have f5_ := f3_.symm; clear f1_ f2_ f3_; subst f4_; subst f5_))
 have p298 : 0 ≤ (6 : Int) := (by omega)
 have q298 : 6 < (aQ.length : Int) := of_decide_eq_true (by first | (with_reducible assumption) | assumption)
 obtain ⟨ad298, e298, hx298_0⟩ := Kd.at_int (Kd.R_reads' aO.out).2.2 6 p298 q298
 cases e298
 (try simp only [show (6 : Int).toNat = 6 from rfl, Nat.reduceMul, Nat.reduceEqDiff, Go.Addr.add, ↓reduceIte] at hx298_0)
 have qi298 : (6 < aQ.length) = True := eq_true (by omega)
 (try rw [show ((6 : Int)).toNat = 6 from rfl] at hx298_0)
 replace p298 := eq_true p298
 replace q298 := eq_true q298
 have p299 : 0 ≤ (7 : Int) := (by omega)
 have q299 : 7 < (aQ.length : Int) := of_decide_eq_true (by first | (with_reducible assumption) | assumption)
 obtain ⟨ad299, e299, hx299_0⟩ := Kd.at_int (Kd.R_reads' aO.out).2.2 7 p299 q299
 obtain rfl : ad298 = ad299 := (by injection e299)
 (try simp only [show (7 : Int).toNat = 7 from rfl, Nat.reduceMul, Nat.reduceEqDiff, Go.Addr.add, ↓reduceIte] at hx299_0)
 have qi299 : (7 < aQ.length) = True := eq_true (by omega)
 (try rw [show ((7 : Int)).toNat = 7 from rfl] at hx299_0)
 replace p299 := eq_true p299
 replace q299 := eq_true q299
 refine start_ (n := 9) (S := fun w' => w'.cell? ⟨ad298.block, ad298.off + 6, none⟩ = some (.int .u8 (rd aQ 6)) ∧ w'.cell? ⟨ad298.block, ad298.off + 7, none⟩ = some (.int .u8 (rd aQ 7))) (ds := []) #[false, false, false, false, false, false, false, false, false] (by kernel_rfl) rfl rfl ⟨hx298_0, hx299_0⟩ (fun hHeld => ?_); refine with_tabW spec_DrawEncodeUdp.tab23 spec_DrawEncodeUdp.bits23 (fun HT_ HW_ => ?_)
 generalize aX.drew = dg at af aM aO ac ab aa HB hx298_0 hx299_0 hHeld ⊢
 refine pure_ (i := 0) (N := some 51) (v := ?_) (a' := ?_) #[true, false, false, false, false, false, false, false, false] rfl rfl (any_of HT_.out (by kernel_rfl)) (fun _ _ _ h => h) (Or.inl ⟨by rfl, ?_⟩) ?_ ?_
 rotate_left
 {
 intro w'
 go_simp
 with_reducible rfl
 }
 rotate_left
 {
 simp only [Act.put, List.setIfInBounds_toArray, List.set_cons_zero, List.set_cons_succ, i64_w, i32_w]
 rfl
 }
 refine pure_ (i := 1) (N := some 52) (v := ?_) (a' := ?_) #[true, true, false, false, false, false, false, false, false] rfl rfl (any_of HT_.out (by kernel_rfl)) (fun _ _ _ h => h) (Or.inl ⟨by rfl, ?_⟩) ?_ ?_
 rotate_left
 {
 intro w'
 go_simp
 with_reducible rfl
 }
 rotate_left
 {
 simp only [Act.put, List.setIfInBounds_toArray, List.set_cons_zero, List.set_cons_succ, i64_w, i32_w]
 rfl
 }
 refine pure_ (i := 3) (N := some 54) (v := ?_) (a' := ?_) #[true, true, false, true, false, false, false, false, false] rfl rfl (any_of HT_.out (by kernel_rfl)) (fun _ _ _ h => h) (Or.inl ⟨by rfl, ?_⟩) ?_ ?_
 rotate_left
 {
 intro w'
 go_simp
 with_reducible rfl
 }
 rotate_left
 {
 simp only [Act.put, List.setIfInBounds_toArray, List.set_cons_zero, List.set_cons_succ, i64_w, i32_w]
 rfl
 }
 refine pure_ (i := 4) (N := some 55) (v := ?_) (a' := ?_) #[true, true, false, true, true, false, false, false, false] rfl rfl (any_of HT_.out (by kernel_rfl)) (fun _ _ _ h => h) (Or.inl ⟨by rfl, ?_⟩) ?_ ?_
 rotate_left
 {
 intro w'
 go_simp
 with_reducible rfl
 }
 rotate_left
 {
 simp only [Act.put, List.setIfInBounds_toArray, List.set_cons_zero, List.set_cons_succ, i64_w, i32_w]
 rfl
 }
 refine take_ (i := 2) (N := some 53) (v := ?_) (a' := ?_) #[true, true, true, true, true, false, false, false, false] rfl rfl (take_ofW HT_.out HW_.out (by kernel_rfl)) (fun _ _ _ h => h) (Or.inl ⟨by rfl, ?_⟩) hHeld ?_ ?_
 rotate_left
 {
 rintro w' ⟨s0, s1⟩
 go_simp
 with_reducible rfl
 }
 rotate_left
 {
 simp only [Act.put, List.setIfInBounds_toArray, List.set_cons_zero, List.set_cons_succ, i64_w, i32_w]
 rfl
 }
 refine take_ (i := 5) (N := some 56) (v := ?_) (a' := ?_) #[true, true, true, true, true, true, false, false, false] rfl rfl (take_ofW HT_.out HW_.out (by kernel_rfl)) (fun _ _ _ h => h) (Or.inl ⟨by rfl, ?_⟩) hHeld ?_ ?_
 rotate_left
 {
 rintro w' ⟨s0, s1⟩
 go_simp
 with_reducible rfl
 }
 rotate_left
 {
 simp only [Act.put, List.setIfInBounds_toArray, List.set_cons_zero, List.set_cons_succ, i64_w, i32_w]
 rfl
 }
 refine one_ (i := 6) (N := some 57) #[true, true, true, true, true, true, true, false, false] rfl rfl (one_of HT_.out (by kernel_rfl)) (by decide) (fun K hK => ?_)
 refine Kd.R_lit_step (Kd.int .u8) _ 5 ?hg (N := 57) ?hd (xs := ([rd aQ 6, rd aQ 7] : List Int)) (inner := [.int .u8 (rd aQ 6), .int .u8 (rd aQ 7)]) (ok := fun _ => True) (okp := fun _ => True) ?hr ?hp (fun _ hk => hk) trivial (Below.refl _ _) (Nat.le_refl _) (by simp) ?_; (case hd => rfl); (case hg => rfl); (case hr => first | (go_simp; done) | (go_simp; rfl)); (case hp => exact (Reps.one (show Kd.M (Kd.int .u8) _ _ _ (rd aQ 6) [.int .u8 (rd aQ 6)] from rfl) (Reps.one (show Kd.M (Kd.int .u8) _ _ _ (rd aQ 7) [.int .u8 (rd aQ 7)] from rfl) (Reps.none _ _))))
 intro dU aK a6 hb hg_ hnew_
 have HS0_ := (hb.cell (World.block_lt_of_cell? _ _ (hHeld.1))).trans (hHeld.1)
 have HS1_ := (hb.cell (World.block_lt_of_cell? _ _ (hHeld.2))).trans (hHeld.2)
 clear hg_ hnew_
 (first | rw [← Ny300.out] at a6 | (simp only [Int.reduceToNat] at a6; rw [← Ny300.out] at a6))
 have n0_ := Aside0.mk (Kd.R_elder' (Rh af) (Kd.R_base a6) hb)
 have n1_ := Aside0.mk (Kd.R_elder' (Rh aM) (Kd.R_base a6) hb)
 have n2_ := Aside0.mk (Kd.R_elder' (Rh aO) (Kd.R_base a6) hb)
 have n3_ := Aside0.mk (Kd.R_lower (Kd.R_new' (Kd.R_new' (Kd.R_new' a6 (Kd.R_lt (Rh af))) (Kd.R_lt (Rh aM))) (Kd.R_lt (Rh aO))) (below_size (by repeat (first | (with_reducible first | exact HB.out | apply below_alloc | apply pw_below_drewN | apply below_drew1 | refine below_set ?_ (IsS64.ge aa.out) | refine below_set ?_ az.out | refine below_set ?_ aF.out) | exact HB.out))))
 have n4_ := Aside0.mk (blk_below (Bh ac) hb)
 have n5_ := Aside0.mk (IsS64.below (by repeat (first | (with_reducible first | exact aa.out | apply IsS64.alloc | apply IsS64.drewN | apply IsS64.drew | apply IsS64.set_1 | apply IsS64.set_2 | refine IsS64.far ?_ an.out _ | refine IsS64.far ?_ ao.out _) | exact aa.out)) hb)
 have n6_ := Aside0.mk (blk_below (Bh ab) hb)
 have n7_ := Aside0.mk (below_step (by repeat (first | (with_reducible first | exact HB.out | apply below_alloc | apply pw_below_drewN | apply below_drew1 | refine below_set ?_ (IsS64.ge aa.out) | refine below_set ?_ az.out | refine below_set ?_ aF.out) | exact HB.out)) hb)
 clear af
 clear aM
 clear aO
 clear ac
 clear aa
 clear ab
 clear HB
 have af := n0_
 have aM := n1_
 have aO := n2_
 have bC := n3_
 have ac := n4_
 have aa := n5_
 have ab := n6_
 have HB := n7_
 clear n0_ n1_ n2_ n3_ n4_ n5_ n6_ n7_
 clear hb a6
 obtain ⟨aA, aB, bY⟩ := Kd.R_slice bC.out
 (first | subst bY | (injection bY with f1_ f2_ f3_; have f4_ := f1_.symm; have f5_ := f3_.symm; clear f1_ f2_ f3_; subst f4_; subst f5_))
 refine hK.out _ _ ⟨HS0_, HS1_⟩ (fun hHeld => ?_)
 clear hK K
 refine norm_ (a' := ?_) ?_ ?_
 rotate_left
 {
 show Act.put _ (some 57) _ = _
 simp only [Act.put, List.setIfInBounds_toArray, List.set_cons_zero, List.set_cons_succ, i64_w, i32_w]
 rfl
 }
 refine pure_ (i := 7) (N := some 58) (v := ?_) (a' := ?_) #[true, true, true, true, true, true, true, true, false] rfl rfl (any_of HT_.out (by kernel_rfl)) (fun _ _ _ h => h) (Or.inl ⟨by rfl, ?_⟩) ?_ ?_
 rotate_left
 {
 intro w'
 go_simp
 with_reducible rfl
 }
 rotate_left
 {
 simp only [Act.put, List.setIfInBounds_toArray, List.set_cons_zero, List.set_cons_succ, i64_w, i32_w]
 rfl
 }
 refine one_ (i := 8) (N := none) #[true, true, true, true, true, true, true, true, true] rfl rfl (one_of HT_.out (by kernel_rfl)) (by decide) (fun K hK => ?_)
 have hs1027 : aK.cell? ⟨aj, 2, none⟩ = some (.slice ai ax.length ah) := (blk_cell ab.out 2).trans rfl
 have hfs1027 := blk_frozen ab.out 2
 have hns1027_0 := aJ.out
 have hms1027_0 := ap.out
 refine skip_ (w1 := ?_) (by rfl) rfl ?_ ?_
 rotate_left
 {
 go_simp
 rfl
 }
 refine hK.out _ _ ⟨((cell_far (p := ⟨aj, _, none⟩) (by first | exact Kd.own_blk (Kd.R_ne aO.out ab.out (by decide)) | (rw [add_block]; exact Kd.own_blk (Kd.R_ne aO.out ab.out (by decide))) | (show (Addr.add _ _).block ≠ _; rw [add_block]; exact Kd.own_blk (Kd.R_ne aO.out ab.out (by decide))) | (dsimp only; exact Kd.own_blk (Kd.R_ne aO.out ab.out (by decide)))) _).trans (hHeld.1)), ((cell_far (p := ⟨aj, _, none⟩) (by first | exact Kd.own_blk (Kd.R_ne aO.out ab.out (by decide)) | (rw [add_block]; exact Kd.own_blk (Kd.R_ne aO.out ab.out (by decide))) | (show (Addr.add _ _).block ≠ _; rw [add_block]; exact Kd.own_blk (Kd.R_ne aO.out ab.out (by decide))) | (dsimp only; exact Kd.own_blk (Kd.R_ne aO.out ab.out (by decide)))) _).trans (hHeld.2))⟩ (fun hHeld => ?_)
 clear hK K
 refine done_ (done_of HT_.out (by kernel_rfl)) ?_
 obtain ⟨⟨cC, cD, cE⟩, cF, cG, cH⟩ := cells3 ab.out
 obtain ⟨⟨cI, cJ, cK⟩, cL, cM, cN⟩ := cells3 ac.out
 try go_wp2_with (first | ((with_reducible refine gate_store (t := 39) (p := 2) rfl ?_); (try (rw [drewN_self aK]; generalize hq_ : World.drewN aK _ = aK; replace af := Aside0.mk (Kd.R_at hq_ af.out); replace aM := Aside0.mk (Kd.R_at hq_ aM.out); replace aO := Aside0.mk (Kd.R_at hq_ aO.out); replace bC := Aside0.mk (Kd.R_at hq_ bC.out); replace ac := Aside0.mk (blk_at hq_ ac.out); replace ab := Aside0.mk (blk_at hq_ ab.out); replace aa := Aside0.mk (IsS64.at_ hq_ aa.out); replace HB := Aside0.mk (below_at hq_ HB.out); clear hq_; (try (obtain ⟨⟨aR, aS, aT⟩, aU, aV, aW⟩ := cells3 ac.out)); (try (obtain ⟨⟨aZ, a0, a1⟩, a2, a3, a4⟩ := cells3 ab.out)))); refine store_event (t := 39) (p := 2) (v := ?_) (w1 := ((((aK.setCell ⟨aj, 2, none⟩ (.slice aA bb.length aB)).setCell ⟨ad, 0, none⟩ (.int .i64 ae)).setCell ⟨ad, 1, none⟩ (.int .i64 ag)).setCell ⟨ad, 2, none⟩ (.slice aA bb.length aB))) ?hg ?ho ?hn ?hr ?_; (case ho => rfl); (case hg => rfl); (case hn => rfl); (case hr => first | (go_simp; done) | (go_simp; rfl)); intro a8 hw; have n0_ : Aside0 (Kd.R (Kd.int .u8) 5 a8 w.heap.size (fun k_ => some k_ ≠ (.slice ai ax.length ah : Value).ownBlock ∧ some k_ ≠ (.slice (some ad298) aQ.length bm : Value).ownBlock ∧ some k_ ≠ (.slice aA bb.length aB : Value).ownBlock) (.slice ak am.length al) am) := ⟨(by rw [hw]; exact (by (with_reducible repeat (first | apply Kd.R_alloc | apply Kd.R_drewN | apply Kd.R_drew)); exact Kd.R_mono (Kd.R_far (p := ⟨ad, 2, none⟩) (Kd.R_far (p := ⟨ad, 1, none⟩) (Kd.R_far (p := ⟨ad, 0, none⟩) (Kd.R_far (p := ⟨aj, 2, none⟩) (Kd.R_types (Kd.R_types af.out ab.out (by decide)) ac.out (by decide)) (fun _ hk => hk.1.2) (.slice aA bb.length aB)) (fun _ hk => hk.2) (.int .i64 ae)) (fun _ hk => hk.2) (.int .i64 ag)) (fun _ hk => hk.2) (.slice aA bb.length aB)) (fun _ hk => ⟨hk.1.1.1.1.2, ⟨hk.1.1.1.2, hk.1.1.2⟩⟩)))⟩; have n1_ : Aside0 (Kd.R (Kd.int .u8) 5 a8 w.heap.size (fun k_ => some k_ ≠ (.slice ak am.length al : Value).ownBlock ∧ some k_ ≠ (.slice (some ad298) aQ.length bm : Value).ownBlock ∧ some k_ ≠ (.slice aA bb.length aB : Value).ownBlock) (.slice ai ax.length ah) ax) := ⟨(by rw [hw]; exact (by (with_reducible repeat (first | apply Kd.R_alloc | apply Kd.R_drewN | apply Kd.R_drew)); exact Kd.R_mono (Kd.R_far (p := ⟨ad, 2, none⟩) (Kd.R_far (p := ⟨ad, 1, none⟩) (Kd.R_far (p := ⟨ad, 0, none⟩) (Kd.R_far (p := ⟨aj, 2, none⟩) (Kd.R_types (Kd.R_types aM.out ab.out (by decide)) ac.out (by decide)) (fun _ hk => hk.1.2) (.slice aA bb.length aB)) (fun _ hk => hk.2) (.int .i64 ae)) (fun _ hk => hk.2) (.int .i64 ag)) (fun _ hk => hk.2) (.slice aA bb.length aB)) (fun _ hk => ⟨hk.1.1.1.1.2, ⟨hk.1.1.1.2, hk.1.1.2⟩⟩)))⟩; have n2_ : Aside0 (Kd.R (Kd.int .u8) 5 a8 w.heap.size (fun k_ => some k_ ≠ (.slice ak am.length al : Value).ownBlock ∧ some k_ ≠ (.slice ai ax.length ah : Value).ownBlock ∧ some k_ ≠ (.slice aA bb.length aB : Value).ownBlock) (.slice (some ad298) aQ.length bm) aQ) := ⟨(by rw [hw]; exact (by (with_reducible repeat (first | apply Kd.R_alloc | apply Kd.R_drewN | apply Kd.R_drew)); exact Kd.R_mono (Kd.R_far (p := ⟨ad, 2, none⟩) (Kd.R_far (p := ⟨ad, 1, none⟩) (Kd.R_far (p := ⟨ad, 0, none⟩) (Kd.R_far (p := ⟨aj, 2, none⟩) (Kd.R_types (Kd.R_types aO.out ab.out (by decide)) ac.out (by decide)) (fun _ hk => hk.1.2) (.slice aA bb.length aB)) (fun _ hk => hk.2) (.int .i64 ae)) (fun _ hk => hk.2) (.int .i64 ag)) (fun _ hk => hk.2) (.slice aA bb.length aB)) (fun _ hk => ⟨hk.1.1.1.1.2, ⟨hk.1.1.1.2, hk.1.1.2⟩⟩)))⟩; have n3_ : Aside0 (Kd.R (Kd.int .u8) 5 a8 w.heap.size (fun k_ => some k_ ≠ (.slice ak am.length al : Value).ownBlock ∧ some k_ ≠ (.slice ai ax.length ah : Value).ownBlock ∧ some k_ ≠ (.slice (some ad298) aQ.length bm : Value).ownBlock) (.slice aA bb.length aB) bb) := ⟨(by rw [hw]; exact (by (with_reducible repeat (first | apply Kd.R_alloc | apply Kd.R_drewN | apply Kd.R_drew)); exact Kd.R_mono (Kd.R_far (p := ⟨ad, 2, none⟩) (Kd.R_far (p := ⟨ad, 1, none⟩) (Kd.R_far (p := ⟨ad, 0, none⟩) (Kd.R_far (p := ⟨aj, 2, none⟩) (Kd.R_types (Kd.R_types bC.out ab.out (by decide)) ac.out (by decide)) (fun _ hk => hk.1.2) (.slice aA bb.length aB)) (fun _ hk => hk.2) (.int .i64 ae)) (fun _ hk => hk.2) (.int .i64 ag)) (fun _ hk => hk.2) (.slice aA bb.length aB)) (fun _ hk => ⟨hk.1.1.1.1.2, ⟨hk.1.1.1.2, hk.1.1.2⟩⟩)))⟩; have n4_ : Aside0 (a8.heap[ad]? = some (.cells #[.int .i64 ae, .int .i64 ag, .slice aA bb.length aB] 39 (0, 0))) := ⟨(by rw [hw]; exact (by (with_reducible repeat (first | refine blk_drewN ?_ _ | refine blk_drew ?_ | refine blk_alloc ?_ _)); refine blk_put (cs := #[.int .i64 ae, .int .i64 ag, .slice none 0 0]) ?_ 2 _ rfl; (with_reducible repeat (first | refine blk_drewN ?_ _ | refine blk_drew ?_ | refine blk_alloc ?_ _)); refine blk_put (cs := #[.int .i64 ae, .int .i64 0, .slice none 0 0]) ?_ 1 _ rfl; (with_reducible repeat (first | refine blk_drewN ?_ _ | refine blk_drew ?_ | refine blk_alloc ?_ _)); refine blk_put (cs := #[.int .i64 0, .int .i64 0, .slice none 0 0]) ?_ 0 _ rfl; (with_reducible repeat (first | refine blk_drewN ?_ _ | refine blk_drew ?_ | refine blk_alloc ?_ _)); refine blk_far ?_ aJ.out _; (with_reducible repeat (first | refine blk_drewN ?_ _ | refine blk_drew ?_ | refine blk_alloc ?_ _)); exact ac.out))⟩; have n5_ : Aside0 (a8.heap[aj]? = some (.cells #[.int .i64 ae, .int .i64 ag, .slice aA bb.length aB] 39 (0, 0))) := ⟨(by rw [hw]; exact (by (with_reducible repeat (first | refine blk_drewN ?_ _ | refine blk_drew ?_ | refine blk_alloc ?_ _)); refine blk_far ?_ ap.out _; (with_reducible repeat (first | refine blk_drewN ?_ _ | refine blk_drew ?_ | refine blk_alloc ?_ _)); refine blk_far ?_ ap.out _; (with_reducible repeat (first | refine blk_drewN ?_ _ | refine blk_drew ?_ | refine blk_alloc ?_ _)); refine blk_far ?_ ap.out _; (with_reducible repeat (first | refine blk_drewN ?_ _ | refine blk_drew ?_ | refine blk_alloc ?_ _)); refine blk_put (cs := #[.int .i64 ae, .int .i64 ag, .slice ai ax.length ah]) ?_ 2 _ rfl; (with_reducible repeat (first | refine blk_drewN ?_ _ | refine blk_drew ?_ | refine blk_alloc ?_ _)); exact ab.out))⟩; have n6_ : Aside0 (IsS64 w a8 aI l0 bc bd) := ⟨(by rw [hw]; exact (by repeat (first | (with_reducible first | exact aa.out | apply IsS64.alloc | apply IsS64.drewN | apply IsS64.drew | apply IsS64.set_1 | apply IsS64.set_2 | refine IsS64.far ?_ an.out _ | refine IsS64.far ?_ ao.out _) | exact aa.out)))⟩; have n7_ : Aside0 (Below w.heap.size w a8) := ⟨(by rw [hw]; exact (by repeat (first | (with_reducible first | exact HB.out | apply below_alloc | apply pw_below_drewN | apply below_drew1 | refine below_set ?_ (IsS64.ge aa.out) | refine below_set ?_ az.out | refine below_set ?_ aF.out) | exact HB.out)))⟩; clear hw; clear af; clear aM; clear aO; clear bC; clear ac; clear ab; clear aa; clear HB; have af := n0_; have aM := n1_; have aO := n2_; have bC := n3_; have ac := n4_; have ab := n5_; have aa := n6_; have HB := n7_; clear n0_ n1_ n2_ n3_ n4_ n5_ n6_ n7_))
 refine bodyPost_ret (results_ctt rfl _ _ ad 39 #[.int .i64 ae, .int .i64 ag, .slice aA bb.length aB] (0, 0) _ rfl (Bh ac) Try.underlying39 rfl (by kernel_rfl)) rfl ?_
 exact ⟨_, by first | rfl | (simp [errW_none, errW_some] <;> rfl) | (simp [*, errW_none, errW_some] <;> rfl), Kd.R_mono (Rh bC) (fun _ hk => trivial), by repeat (first | (with_reducible first | exact HB.out | apply below_alloc | apply pw_below_drewN | apply below_drew1 | refine below_set ?_ (IsS64.ge aa.out) | refine below_set ?_ az.out | refine below_set ?_ aF.out) | exact HB.out)⟩
 }
 {
 go_wp2_with (first | ((with_reducible refine gate_dst (N := 40) rfl ?_); refine Kd.R_lit (Kd.int .u8) _ 5 ?hg (N := 40) ?hd (xs := ([0, 0] : List Int)) (inner := [.int .u8 0, .int .u8 0]) (ok := fun _ => True) (okp := fun _ => True) ?hr ?hp (fun _ hk => hk) trivial (Below.refl _ _) (Nat.le_refl _) (by simp) ?_; (case hd => rfl); (case hg => rfl); (case hr => first | (go_simp; done) | (go_simp; rfl)); (case hp => exact (Reps.one (show Kd.M (Kd.int .u8) _ _ _ 0 [.int .u8 0] from rfl) (Reps.one (show Kd.M (Kd.int .u8) _ _ _ 0 [.int .u8 0] from rfl) (Reps.none _ _)))); intro dC bi aE hb hg_ hnew_; clear hg_ hnew_; (first | rw [← Ny291.out] at aE | (simp only [Int.reduceToNat] at aE; rw [← Ny291.out] at aE)); have uB := below_pre (n := w.heap.size) (w := w) hb (by repeat (first | (with_reducible first | exact HB.out | apply below_alloc | apply pw_below_drewN | apply below_drew1 | refine below_set ?_ (IsS64.ge aa.out) | refine below_set ?_ az.out | refine below_set ?_ aF.out) | exact HB.out)); have aM := Aside0.mk (Kd.R_lower (Kd.R_new' aE (Kd.R_lt (Rh af))) (below_size uB)); replace af := Aside0.mk (Kd.R_elder' (Rh af) (Kd.R_base aE) hb); replace ac := Aside0.mk (blk_below (Bh ac) hb); replace ab := Aside0.mk (blk_below (Bh ab) hb); replace HB := Aside0.mk (below_step uB hb); replace aa := Aside0.mk (IsS64.below (by repeat (first | (with_reducible first | exact aa.out | apply IsS64.alloc | apply IsS64.drewN | apply IsS64.drew | apply IsS64.set_1 | apply IsS64.set_2 | refine IsS64.far ?_ an.out _ | refine IsS64.far ?_ ao.out _) | exact aa.out)) hb); clear uB; clear hb aE; obtain ⟨ai, ah, bl⟩ := Kd.R_slice aM.out; subst bl; obtain ⟨⟨br, bs, bu⟩, bv, bw, bx⟩ := cells3 ab.out) | ((with_reducible refine gate_callee (f := 15) rfl ?_); refine goesL_ (some 46) rfl rfl Try.func15 (by kernel_rfl) rfl #[.agg #[.int .i64 ae, .int .i64 ag, .slice ai ax.length ah], .int .i64 av, .int .i64 aG] rfl wT ?_; (with_reducible refine (spec_EncodeUdp.calls k ae ag _ _ ax av aG aQ bE _ ?side1 ?side2 A23.out).mono ?_); (case side1 => refine (Kd.R_reads' (e := 5) (base := w.heap.size) (ok := fun k_ => (True ∧ some k_ ≠ (.slice ak am.length al : Value).ownBlock)) (n := ax.length) (c := ah) ?_).2.2; exact (by (with_reducible repeat (first | apply Kd.R_alloc | apply Kd.R_drewN | apply Kd.R_drew)); exact (Kd.R_mono (Kd.R_far (p := ⟨aj, 2, none⟩) (Kd.R_types aM.out ab.out (by decide)) (fun _ hk => hk.2) (.slice ai ax.length ah)) (fun _ h_ => h_.1)))); (case side2 => exact (Kd.R_reads' aM.out).2.1); rintro e aX ⟨cz, rfl, bj, hb⟩; refine ⟨_, rfl, ?_⟩; have uB := below_pre (n := w.heap.size) (w := w) hb (by repeat (first | (with_reducible first | exact HB.out | apply below_alloc | apply pw_below_drewN | apply below_drew1 | refine below_set ?_ (IsS64.ge aa.out) | refine below_set ?_ az.out | refine below_set ?_ aF.out) | exact HB.out)); have aO := Aside0.mk (Kd.R_lower (Kd.R_new' (Kd.R_new' bj (Kd.R_lt (by (with_reducible repeat (first | apply Kd.R_alloc | apply Kd.R_drewN | apply Kd.R_drew)); exact (Kd.R_mono (Kd.R_far (p := ⟨aj, 2, none⟩) (Kd.R_types af.out ab.out (by decide)) (fun _ hk => hk.2) (.slice ai ax.length ah)) (fun _ h_ => h_.1))))) (Kd.R_lt (by (with_reducible repeat (first | apply Kd.R_alloc | apply Kd.R_drewN | apply Kd.R_drew)); exact (Kd.R_mono (Kd.R_far (p := ⟨aj, 2, none⟩) (Kd.R_types aM.out ab.out (by decide)) (fun _ hk => hk.2) (.slice ai ax.length ah)) (fun _ h_ => h_.1))))) (below_size uB)); replace af := Aside0.mk (Kd.R_elder' (by (with_reducible repeat (first | apply Kd.R_alloc | apply Kd.R_drewN | apply Kd.R_drew)); exact (Kd.R_mono (Kd.R_far (p := ⟨aj, 2, none⟩) (Kd.R_types af.out ab.out (by decide)) (fun _ hk => hk.2) (.slice ai ax.length ah)) (fun _ h_ => h_.1))) (Kd.R_base bj) hb); replace aM := Aside0.mk (Kd.R_elder' (by (with_reducible repeat (first | apply Kd.R_alloc | apply Kd.R_drewN | apply Kd.R_drew)); exact (Kd.R_mono (Kd.R_far (p := ⟨aj, 2, none⟩) (Kd.R_types aM.out ab.out (by decide)) (fun _ hk => hk.2) (.slice ai ax.length ah)) (fun _ h_ => h_.1))) (Kd.R_base bj) hb); replace ac := Aside0.mk (blk_below (g := ad) (o := .cells #[.int .i64 0, .int .i64 0, .slice none 0 0] 39 (0, 0)) (by (with_reducible repeat (first | refine blk_drewN ?_ _ | refine blk_drew ?_ | refine blk_alloc ?_ _)); refine blk_far ?_ aJ.out _; (with_reducible repeat (first | refine blk_drewN ?_ _ | refine blk_drew ?_ | refine blk_alloc ?_ _)); exact ac.out) hb); replace ab := Aside0.mk (blk_below (g := aj) (o := .cells #[.int .i64 ae, .int .i64 ag, .slice ai ax.length ah] 39 (0, 0)) (by (with_reducible repeat (first | refine blk_drewN ?_ _ | refine blk_drew ?_ | refine blk_alloc ?_ _)); refine blk_put (cs := #[.int .i64 ae, .int .i64 ag, .slice ak am.length al]) ?_ 2 _ rfl; (with_reducible repeat (first | refine blk_drewN ?_ _ | refine blk_drew ?_ | refine blk_alloc ?_ _)); exact ab.out) hb); replace HB := Aside0.mk (below_step uB hb); replace aa := Aside0.mk (IsS64.below (show IsS64 w (bi.setCell ⟨aj, 2, none⟩ (.slice ai ax.length ah)) aI l0 bc bd from by repeat (first | (with_reducible first | exact aa.out | apply IsS64.alloc | apply IsS64.drewN | apply IsS64.drew | apply IsS64.set_1 | apply IsS64.set_2 | refine IsS64.far ?_ an.out _ | refine IsS64.far ?_ ao.out _) | exact aa.out)) hb); clear uB; (try clear hb); (try clear hb2); (try clear hk); (try clear hi); (try clear bj); obtain ⟨⟨bR, bS, bT⟩, bU, bV, bW⟩ := cells3 ab.out; obtain ⟨⟨cc, cd, ce⟩, cf, cg, ch⟩ := cells3 ac.out) | ((with_reducible refine gate_store (t := 39) (p := 2) rfl ?_); (try (rw [drewN_self aX]; generalize hq_ : World.drewN aX _ = aX; replace af := Aside0.mk (Kd.R_at hq_ af.out); replace aM := Aside0.mk (Kd.R_at hq_ aM.out); replace aO := Aside0.mk (Kd.R_at hq_ aO.out); replace ac := Aside0.mk (blk_at hq_ ac.out); replace ab := Aside0.mk (blk_at hq_ ab.out); replace aa := Aside0.mk (IsS64.at_ hq_ aa.out); replace HB := Aside0.mk (below_at hq_ HB.out); clear hq_; (try (obtain ⟨⟨aR, aS, aT⟩, aU, aV, aW⟩ := cells3 ac.out)); (try (obtain ⟨⟨aZ, a0, a1⟩, a2, a3, a4⟩ := cells3 ab.out)))); refine store_event (t := 39) (p := 2) (v := ?_) (w1 := (((aX.setCell ⟨ad, 0, none⟩ (.int .i64 ae)).setCell ⟨ad, 1, none⟩ (.int .i64 ag)).setCell ⟨ad, 2, none⟩ (.slice ai ax.length ah))) ?hg ?ho ?hn ?hr ?_; (case ho => rfl); (case hg => rfl); (case hn => rfl); (case hr => first | (go_simp; done) | (go_simp; rfl)); intro aK hw; have n0_ : Aside0 (Kd.R (Kd.int .u8) 5 aK w.heap.size (fun k_ => some k_ ≠ (.slice ai ax.length ah : Value).ownBlock ∧ some k_ ≠ (cz : Value).ownBlock) (.slice ak am.length al) am) := ⟨(by rw [hw]; exact (by (with_reducible repeat (first | apply Kd.R_alloc | apply Kd.R_drewN | apply Kd.R_drew)); exact Kd.R_mono (Kd.R_far (p := ⟨ad, 2, none⟩) (Kd.R_far (p := ⟨ad, 1, none⟩) (Kd.R_far (p := ⟨ad, 0, none⟩) (Kd.R_types af.out ac.out (by decide)) (fun _ hk => hk.2) (.int .i64 ae)) (fun _ hk => hk.2) (.int .i64 ag)) (fun _ hk => hk.2) (.slice ai ax.length ah)) (fun _ hk => ⟨hk.1.1.2, hk.1.2⟩)))⟩; have n1_ : Aside0 (Kd.R (Kd.int .u8) 5 aK w.heap.size (fun k_ => some k_ ≠ (.slice ak am.length al : Value).ownBlock ∧ some k_ ≠ (cz : Value).ownBlock) (.slice ai ax.length ah) ax) := ⟨(by rw [hw]; exact (by (with_reducible repeat (first | apply Kd.R_alloc | apply Kd.R_drewN | apply Kd.R_drew)); exact Kd.R_mono (Kd.R_far (p := ⟨ad, 2, none⟩) (Kd.R_far (p := ⟨ad, 1, none⟩) (Kd.R_far (p := ⟨ad, 0, none⟩) (Kd.R_types aM.out ac.out (by decide)) (fun _ hk => hk.2) (.int .i64 ae)) (fun _ hk => hk.2) (.int .i64 ag)) (fun _ hk => hk.2) (.slice ai ax.length ah)) (fun _ hk => ⟨hk.1.1.2, hk.1.2⟩)))⟩; have n2_ : Aside0 (Kd.R (Kd.int .u8) 5 aK w.heap.size (fun k_ => some k_ ≠ (.slice ak am.length al : Value).ownBlock ∧ some k_ ≠ (.slice ai ax.length ah : Value).ownBlock) cz aQ) := ⟨(by rw [hw]; exact (by (with_reducible repeat (first | apply Kd.R_alloc | apply Kd.R_drewN | apply Kd.R_drew)); exact Kd.R_mono (Kd.R_far (p := ⟨ad, 2, none⟩) (Kd.R_far (p := ⟨ad, 1, none⟩) (Kd.R_far (p := ⟨ad, 0, none⟩) (Kd.R_types aO.out ac.out (by decide)) (fun _ hk => hk.2) (.int .i64 ae)) (fun _ hk => hk.2) (.int .i64 ag)) (fun _ hk => hk.2) (.slice ai ax.length ah)) (fun _ hk => ⟨hk.1.1.2, hk.1.2⟩)))⟩; have n3_ : Aside0 (aK.heap[ad]? = some (.cells #[.int .i64 ae, .int .i64 ag, .slice ai ax.length ah] 39 (0, 0))) := ⟨(by rw [hw]; exact (by (with_reducible repeat (first | refine blk_drewN ?_ _ | refine blk_drew ?_ | refine blk_alloc ?_ _)); refine blk_put (cs := #[.int .i64 ae, .int .i64 ag, .slice none 0 0]) ?_ 2 _ rfl; (with_reducible repeat (first | refine blk_drewN ?_ _ | refine blk_drew ?_ | refine blk_alloc ?_ _)); refine blk_put (cs := #[.int .i64 ae, .int .i64 0, .slice none 0 0]) ?_ 1 _ rfl; (with_reducible repeat (first | refine blk_drewN ?_ _ | refine blk_drew ?_ | refine blk_alloc ?_ _)); refine blk_put (cs := #[.int .i64 0, .int .i64 0, .slice none 0 0]) ?_ 0 _ rfl; (with_reducible repeat (first | refine blk_drewN ?_ _ | refine blk_drew ?_ | refine blk_alloc ?_ _)); exact ac.out))⟩; have n4_ : Aside0 (aK.heap[aj]? = some (.cells #[.int .i64 ae, .int .i64 ag, .slice ai ax.length ah] 39 (0, 0))) := ⟨(by rw [hw]; exact (by (with_reducible repeat (first | refine blk_drewN ?_ _ | refine blk_drew ?_ | refine blk_alloc ?_ _)); refine blk_far ?_ ap.out _; (with_reducible repeat (first | refine blk_drewN ?_ _ | refine blk_drew ?_ | refine blk_alloc ?_ _)); refine blk_far ?_ ap.out _; (with_reducible repeat (first | refine blk_drewN ?_ _ | refine blk_drew ?_ | refine blk_alloc ?_ _)); refine blk_far ?_ ap.out _; (with_reducible repeat (first | refine blk_drewN ?_ _ | refine blk_drew ?_ | refine blk_alloc ?_ _)); exact ab.out))⟩; have n5_ : Aside0 (IsS64 w aK aI l0 bc bd) := ⟨(by rw [hw]; exact (by repeat (first | (with_reducible first | exact aa.out | apply IsS64.alloc | apply IsS64.drewN | apply IsS64.drew | apply IsS64.set_1 | apply IsS64.set_2 | refine IsS64.far ?_ an.out _ | refine IsS64.far ?_ ao.out _) | exact aa.out)))⟩; have n6_ : Aside0 (Below w.heap.size w aK) := ⟨(by rw [hw]; exact (by repeat (first | (with_reducible first | exact HB.out | apply below_alloc | apply pw_below_drewN | apply below_drew1 | refine below_set ?_ (IsS64.ge aa.out) | refine below_set ?_ az.out | refine below_set ?_ aF.out) | exact HB.out)))⟩; clear hw; clear af; clear aM; clear aO; clear ac; clear ab; clear aa; clear HB; have af := n0_; have aM := n1_; have aO := n2_; have ac := n3_; have ab := n4_; have aa := n5_; have HB := n6_; clear n0_ n1_ n2_ n3_ n4_ n5_ n6_))
 refine bodyPost_ret (results_ctt rfl _ _ ad 39 #[.int .i64 ae, .int .i64 ag, .slice ai ax.length ah] (0, 0) _ rfl (Bh ac) Try.underlying39 rfl (by kernel_rfl)) rfl ?_
 exact ⟨_, by first | rfl | (simp [errW_none, errW_some] <;> rfl) | (simp [*, errW_none, errW_some] <;> rfl), Kd.R_mono (Rh aM) (fun _ hk => trivial), by repeat (first | (with_reducible first | exact HB.out | apply below_alloc | apply pw_below_drewN | apply below_drew1 | refine below_set ?_ (IsS64.ge aa.out) | refine below_set ?_ az.out | refine below_set ?_ aF.out) | exact HB.out)⟩
 }
 {
 obtain ⟨⟨bF, bG, bH⟩, bI, bJ, bK⟩ := cells3 ab.out; obtain ⟨⟨bL, bM, bN⟩, bO, bP, bQ⟩ := cells3 ac.out
 go_wp2_with (first | ((with_reducible refine gate_store (t := 39) (p := 2) rfl ?_); (try (rw [drewN_self a9]; generalize hq_ : World.drewN a9 _ = a9; replace af := Aside0.mk (Kd.R_at hq_ af.out); replace ac := Aside0.mk (blk_at hq_ ac.out); replace ab := Aside0.mk (blk_at hq_ ab.out); replace aa := Aside0.mk (IsS64.at_ hq_ aa.out); replace HB := Aside0.mk (below_at hq_ HB.out); clear hq_; (try (obtain ⟨⟨aR, aS, aT⟩, aU, aV, aW⟩ := cells3 ac.out)); (try (obtain ⟨⟨aZ, a0, a1⟩, a2, a3, a4⟩ := cells3 ab.out)))); refine store_event (t := 39) (p := 2) (v := ?_) (w1 := (((a9.setCell ⟨ad, 0, none⟩ (.int .i64 ae)).setCell ⟨ad, 1, none⟩ (.int .i64 ag)).setCell ⟨ad, 2, none⟩ (.slice ak am.length al))) ?hg ?ho ?hn ?hr ?_; (case ho => rfl); (case hg => rfl); (case hn => rfl); (case hr => first | (go_simp; done) | (go_simp; rfl)); intro a5 hw; have n0_ : Aside0 (Kd.R (Kd.int .u8) 5 a5 w.heap.size (fun _ => True) (.slice ak am.length al) am) := ⟨(by rw [hw]; exact (by (with_reducible repeat (first | apply Kd.R_alloc | apply Kd.R_drewN | apply Kd.R_drew)); exact Kd.R_mono (Kd.R_far (p := ⟨ad, 2, none⟩) (Kd.R_far (p := ⟨ad, 1, none⟩) (Kd.R_far (p := ⟨ad, 0, none⟩) (Kd.R_types af.out ac.out (by decide)) (fun _ hk => hk.2) (.int .i64 ae)) (fun _ hk => hk.2) (.int .i64 ag)) (fun _ hk => hk.2) (.slice ak am.length al)) (fun _ hk => trivial)))⟩; have n1_ : Aside0 (a5.heap[ad]? = some (.cells #[.int .i64 ae, .int .i64 ag, .slice ak am.length al] 39 (0, 0))) := ⟨(by rw [hw]; exact (by (with_reducible repeat (first | refine blk_drewN ?_ _ | refine blk_drew ?_ | refine blk_alloc ?_ _)); refine blk_put (cs := #[.int .i64 ae, .int .i64 ag, .slice none 0 0]) ?_ 2 _ rfl; (with_reducible repeat (first | refine blk_drewN ?_ _ | refine blk_drew ?_ | refine blk_alloc ?_ _)); refine blk_put (cs := #[.int .i64 ae, .int .i64 0, .slice none 0 0]) ?_ 1 _ rfl; (with_reducible repeat (first | refine blk_drewN ?_ _ | refine blk_drew ?_ | refine blk_alloc ?_ _)); refine blk_put (cs := #[.int .i64 0, .int .i64 0, .slice none 0 0]) ?_ 0 _ rfl; (with_reducible repeat (first | refine blk_drewN ?_ _ | refine blk_drew ?_ | refine blk_alloc ?_ _)); exact ac.out))⟩; have n2_ : Aside0 (a5.heap[aj]? = some (.cells #[.int .i64 ae, .int .i64 ag, .slice ak am.length al] 39 (0, 0))) := ⟨(by rw [hw]; exact (by (with_reducible repeat (first | refine blk_drewN ?_ _ | refine blk_drew ?_ | refine blk_alloc ?_ _)); refine blk_far ?_ ap.out _; (with_reducible repeat (first | refine blk_drewN ?_ _ | refine blk_drew ?_ | refine blk_alloc ?_ _)); refine blk_far ?_ ap.out _; (with_reducible repeat (first | refine blk_drewN ?_ _ | refine blk_drew ?_ | refine blk_alloc ?_ _)); refine blk_far ?_ ap.out _; (with_reducible repeat (first | refine blk_drewN ?_ _ | refine blk_drew ?_ | refine blk_alloc ?_ _)); exact ab.out))⟩; have n3_ : Aside0 (IsS64 w a5 aI l0 bc bd) := ⟨(by rw [hw]; exact (by repeat (first | (with_reducible first | exact aa.out | apply IsS64.alloc | apply IsS64.drewN | apply IsS64.drew | apply IsS64.set_1 | apply IsS64.set_2 | refine IsS64.far ?_ an.out _ | refine IsS64.far ?_ ao.out _) | exact aa.out)))⟩; have n4_ : Aside0 (Below w.heap.size w a5) := ⟨(by rw [hw]; exact (by repeat (first | (with_reducible first | exact HB.out | apply below_alloc | apply pw_below_drewN | apply below_drew1 | refine below_set ?_ (IsS64.ge aa.out) | refine below_set ?_ az.out | refine below_set ?_ aF.out) | exact HB.out)))⟩; clear hw; clear af; clear ac; clear ab; clear aa; clear HB; have af := n0_; have ac := n1_; have ab := n2_; have aa := n3_; have HB := n4_; clear n0_ n1_ n2_ n3_ n4_))
 refine bodyPost_ret (results_ctt rfl _ _ ad 39 #[.int .i64 ae, .int .i64 ag, .slice ak am.length al] (0, 0) _ rfl (Bh ac) Try.underlying39 rfl (by kernel_rfl)) rfl ?_
 exact ⟨_, by first | rfl | (simp [errW_none, errW_some] <;> rfl) | (simp [*, errW_none, errW_some] <;> rfl), by (with_reducible repeat (first | apply Kd.R_alloc | apply Kd.R_drewN | apply Kd.R_drew)); exact af.out, by repeat (first | (with_reducible first | exact HB.out | apply below_alloc | apply pw_below_drewN | apply below_drew1 | refine below_set ?_ (IsS64.ge aa.out) | refine below_set ?_ az.out | refine below_set ?_ aF.out) | exact HB.out)⟩
 }

/-! ### laws_lwPattern: function 16 -/
def laws_lwPattern.l0 : Nat → Int → Int → List Int → Int → Option (List Int)
  | 0, _, _, _, _ => none
  | k + 1, x0, x1, x5, x6 => if x6 < x1 then (if x5.length < 140737488355328 then (laws_lwPattern.l0 k x0 x1 (x5 ++ [(wrap64 ((wrap64 ((wrap64 ((wrap64 (x0 + x6)) * 31)) + (wrap64 (Int.tdiv (wrap64 (x0 + x6)) 7)))) + (wrap64 (Int.tdiv (wrap64 (x0 + x6)) 251)))) % 256]) (wrap64 (x6 + 1))) else (none)) else (some x5)
def laws_lwPattern.f (k : Nat) (a0 : Int) (a1 : Int) : Option (List Int) := laws_lwPattern.l0 k a0 a1 (([] : List Int)) 0
theorem laws_lwPattern.mono_l : ∀ k, (∀ y0 y1 y2 y3, LeO (laws_lwPattern.l0 k y0 y1 y2 y3) (laws_lwPattern.l0 (k + 1) y0 y1 y2 y3))
  | 0 => fun _ _ _ _ r h => by simp [laws_lwPattern.l0] at h
  | k + 1 => by
    have ih0 := laws_lwPattern.mono_l k
    · intro y0 y1 y2 y3
      unfold laws_lwPattern.l0
      repeat' first
      | (with_reducible exact ih0 _ _ _ _)
      | (with_reducible exact LeO.refl _)
      | (with_reducible exact LeO.none _)
      | (with_reducible refine LeO.ite ?_ ?_)
      | (with_reducible refine LeO.bind ?_ (fun _ => ?_))
      | exact ih0 _ _ _ _
      | exact LeO.none _
      | refine LeO.ite ?_ ?_
      | refine LeO.bind ?_ (fun _ => ?_)
theorem laws_lwPattern.mono : ∀ a0 a1 k, LeO (laws_lwPattern.f k a0 a1) (laws_lwPattern.f (k + 1) a0 a1) := by
 intro a0 a1 k
 have ih0 := laws_lwPattern.mono_l k
 unfold laws_lwPattern.f
 repeat' first
     | (with_reducible exact ih0 _ _ _ _)
     | (with_reducible exact LeO.refl _)
     | (with_reducible exact LeO.none _)
     | (with_reducible refine LeO.ite ?_ ?_)
     | (with_reducible refine LeO.bind ?_ (fun _ => ?_))
     | exact ih0 _ _ _ _
     | exact LeO.none _
     | refine LeO.ite ?_ ?_
     | refine LeO.bind ?_ (fun _ => ?_)
set_option maxHeartbeats 60000000 in
set_option maxRecDepth 100000 in
theorem laws_lwPattern.calls (k : Nat) (a0 : Int) (a1 : Int) (r : List Int) (w : World) (h : laws_lwPattern.f k a0 a1 = some r) :
 Calls Try.prog 16 #[.int .i64 a0, .int .i64 a1] w fun e w' => ∃ v0_ : Value, e = .returned (v0_) ∧ Kd.R (Kd.int .u8) 5 w' w.heap.size (fun _ => True) v0_ r ∧ Below w.heap.size w w' := by
 have HB := Aside0.mk (Below.refl w.heap.size w)
 have H : (laws_lwPattern.l0 k a0 a1 (([] : List Int)) 0) = some r := h
 clear h
 obtain ⟨ah, ad⟩ : ∃ y_ : List Int, y_ = (([] : List Int)) := ⟨_, rfl⟩
 replace H : (laws_lwPattern.l0 k a0 a1 ah 0) = some r := by first | (rw [ad]; with_reducible exact H) | (have H2_ := (Option.bind_some _ _).symm.trans H; rw [ad]; with_reducible exact H2_) | (have H2_ := (Option.bind_some _ _).symm.trans H; with_reducible exact H2_) | with_reducible exact H | (rw [ad]; exact H) | exact H
 have Ny303 := Aside0.mk ad
 clear ad
 have H' := Aside0.mk H
 clear H
 go_enter Try.func16, Try.ntmps16
 go_wp2_with (first | ((with_reducible refine gate_dst (N := 8) rfl ?_); refine Kd.R_lit (Kd.int .u8) _ 5 ?hg (N := 8) ?hd (xs := ([] : List Int)) (inner := []) (ok := fun _ => True) (okp := fun _ => True) ?hr ?hp (fun _ hk => hk) trivial (Below.refl _ _) (Nat.le_refl _) (by simp) ?_; (case hd => rfl); (case hg => rfl); (case hr => first | (go_simp; done) | (go_simp; rfl)); (case hp => exact (Reps.none _ _)); intro ao am ab hb hg_ hnew_; clear hg_ hnew_; (first | rw [← Ny303.out] at ab | (simp only [Int.reduceToNat] at ab; rw [← Ny303.out] at ab)); have aj := Aside0.mk (Kd.R_lower ab (below_size wB)); replace HB := Aside0.mk (below_step wB hb); clear hb ab))
 go_loopg [5, 6] k (fun kq v5 v6 w' => ∃ (af : List Int) (aa : Int), v6 = .int .i64 aa ∧ Aside0 (laws_lwPattern.l0 kq a0 a1 af aa = some r) ∧ Aside0 (kq ≤ k) ∧ Aside0 (Kd.R (Kd.int .u8) 5 w' w.heap.size (fun _ => True) v5 af) ∧ Aside0 (Below w.heap.size w w'))
 case atStart => exact ⟨(ah), (0), (by first | rfl | (simp; done) | (simp [*]; done)), H', ⟨Nat.le_refl _⟩, ⟨Rh aj⟩, ⟨wB⟩⟩
 case round => (
 clear H'
 obtain ⟨af, aa, rfl, HA, al, HO_5, HB⟩ := hrel
 cases gk with
 | zero => exact absurd HA.out (by simp [laws_lwPattern.l0])
 | succ k1 => {
 have H := HA.out
 clear HA
 simp only [laws_lwPattern.l0] at H
 by_cases ac : aa < a1
 {
 rw [if_pos ac] at H
 have c1003b0 : decide (aa < a1) = true := decide_eq_true ac
 clear ac
 by_cases ag : af.length < 140737488355328
 {
 rw [if_pos ag] at H
 have LMc1004 := Aside0.mk ag
 clear ag
 obtain ⟨ai, ae⟩ : ∃ y_ : List Int, y_ = (af ++ [(wrap64 ((wrap64 ((wrap64 ((wrap64 (a0 + aa)) * 31)) + (wrap64 (Int.tdiv (wrap64 (a0 + aa)) 7)))) + (wrap64 (Int.tdiv (wrap64 (a0 + aa)) 251)))) % 256]) := ⟨_, rfl⟩
 replace H : (laws_lwPattern.l0 k1 a0 a1 ai (wrap64 (aa + 1))) = some r := by first | (rw [ae]; with_reducible exact H) | (have H2_ := (Option.bind_some _ _).symm.trans H; rw [ae]; with_reducible exact H2_) | (have H2_ := (Option.bind_some _ _).symm.trans H; with_reducible exact H2_) | with_reducible exact H | (rw [ae]; exact H) | exact H
 have Ny306 := Aside0.mk ae
 clear ae
 have H' := Aside0.mk H
 clear H
 go_wp2_with (first | ((with_reducible refine gate_builtin (b := .append) (xs := #[.tmp 17, .tmp 27]) rfl ?_); at_builtin; refine Kd.R_append (Kd.int .u8) (w0 := w) w.heap.size rfl (.tmp 17) (.tmp 27) 22 5 (.int .u8 0) 1 rfl Try.underlying22 info5 rfl (by decide) (by omega) u5 af ((wrap64 ((wrap64 ((wrap64 ((wrap64 (a0 + aa)) * 31)) + (wrap64 (Int.tdiv (wrap64 (a0 + aa)) 7)))) + (wrap64 (Int.tdiv (wrap64 (a0 + aa)) 251)))) % 256) [.int .u8 ((wrap64 ((wrap64 ((wrap64 ((wrap64 (a0 + aa)) * 31)) + (wrap64 (Int.tdiv (wrap64 (a0 + aa)) 7)))) + (wrap64 (Int.tdiv (wrap64 (a0 + aa)) 251)))) % 256)] (fun _ => True) (fun _ => False) rfl rfl ?aP (fun _ hk => hk.elim) ?aF ?aO ?aB ?aS ?aL ?_; (case aP => exact rfl); (case aB => exact wB); (case aF => exact (fun _ _ => trivial)); (case aO => exact (Rh HO_5)); (case aS => exact (below_size wB)); (case aL => have := LMc1004.out; omega); intro ap an ho hb hg hat; rw [← Ny306.out] at ho; replace HB := Aside0.mk (hb); have ak := Aside0.mk (ho); clear HO_5; clear ho hb hg hat))
 go_roundg k1
 case measure => have := al.out; omega
 case rel => exact ⟨(ai), (wrap64 (aa + 1)), (by first | rfl | (simp; done) | (simp [*]; done)), H', ⟨by have := al.out; omega⟩, ⟨Rh ak⟩, ⟨wB⟩⟩
 }
 {
 rw [if_neg ag] at H
 exact absurd H (by simp)
 }
 }
 {
 rw [if_neg ac] at H
 have c1003b0 : decide (aa < a1) = false := decide_eq_false ac
 clear ac
 obtain rfl := Option.some.inj H
 go_wp2
 go_ret
 exact ⟨_, by first | rfl | (simp [errW_none, errW_some] <;> rfl) | (simp [*, errW_none, errW_some] <;> rfl), by (with_reducible repeat (first | apply Kd.R_alloc | apply Kd.R_drewN | apply Kd.R_drew)); exact HO_5.out, wB⟩
 }
 }
 )

end Go.Proofs.Ytfllcmeakcbiaaa.PFnOneBit
