-- Written for this claim by a program of this session (wip/mkprint.py: the print, turned at a few places). Not trusted: Lean checks it.
import Derived.Test.YtcapkpbjppenpaaPFnExactFragmentx0
import Derived.Test.YtcapkpbjppenpaaPFnExactFragmentx1
import Derived.Test.YtcapkpbjppenpaaPFnExactFragmentx2
namespace Go.Proofs.Ytcapkpbjppenpaa.PFnExactFragment
open Go.RowKit Go.Proofs.YtcapkpbjppenpaaW.PrintWords Go.Proofs.YtcapkpbjppenpaaW.PrintLast Go.Proofs.YtcapkpbjppenpaaW.PrintMore
attribute [local go_sem] max2_int min2_int max_two min_two max_three min_three max_four min_four   -- for this text's walks alone
set_option linter.unusedVariables false
set_option linter.unusedSimpArgs false

/-! ### spec_EncodeIP: function 14 -/
def spec_EncodeIP.j0 : Nat → Bool → Int → Int → Bool → Bool → Int → Int → Int → Int → Int → List Int → List Int → Option (List Int × Int)
  | 0, _, _, _, _, _, _, _, _, _, _, _, _ => none
  | k + 1, x24, x185000, x185001, x185002, x185003, x185004, x185005, x185006, x185007, x185008, x185009, x185010 => if x24 = true then (some (([] : List Int), 7)) else ((spec_l05Head.f k x185000 x185001 x185002 x185003 x185004 x185005 x185006 x185007 x185008 x185009 x185010).bind fun t186 => ((spec_l01Join.f k t186 x185010).bind fun t189 => (some (t189, 0))))
def spec_EncodeIP.f (k : Nat) (a0_0 : Int) (a0_1 : Int) (a0_2 : Bool) (a0_3 : Bool) (a0_4 : Int) (a0_5 : Int) (a0_6 : Int) (a0_7 : Int) (a0_8 : Int) (l0_9 : List Int) (l0_10 : List Int) : Option (List Int × Int) := (spec_l05OK.f a0_0 a0_1 a0_2 a0_3 a0_4 a0_5 a0_6 a0_7 a0_8 l0_9 l0_10).bind fun t185 => (if t185 = true then (if (wrap64 ((wrap64 (20 + (l0_9.length : Int))) + (l0_10.length : Int))) > 65535 then (spec_EncodeIP.j0 k true a0_0 a0_1 a0_2 a0_3 a0_4 a0_5 a0_6 a0_7 a0_8 l0_9 l0_10) else (spec_EncodeIP.j0 k (decide ((wrap64 (a0_4 + (l0_10.length : Int))) > 65535)) a0_0 a0_1 a0_2 a0_3 a0_4 a0_5 a0_6 a0_7 a0_8 l0_9 l0_10)) else (some (([] : List Int), 1)))
theorem spec_EncodeIP.mono_l : ∀ k, (∀ y0 y1 y2 y3 y4 y5 y6 y7 y8 y9 y10 y11, LeO (spec_EncodeIP.j0 k y0 y1 y2 y3 y4 y5 y6 y7 y8 y9 y10 y11) (spec_EncodeIP.j0 (k + 1) y0 y1 y2 y3 y4 y5 y6 y7 y8 y9 y10 y11))
  | 0 => fun _ _ _ _ _ _ _ _ _ _ _ _ r h => by simp [spec_EncodeIP.j0] at h
  | k + 1 => by
    have ih0 := spec_EncodeIP.mono_l k
    · intro y0 y1 y2 y3 y4 y5 y6 y7 y8 y9 y10 y11
      unfold spec_EncodeIP.j0
      repeat' first
      | (with_reducible exact ih0 _ _ _ _ _ _ _ _ _ _ _ _)
      | (with_reducible exact spec_l01Join.mono _ _ _)
      | (with_reducible exact spec_l05Head.mono _ _ _ _ _ _ _ _ _ _ _ _)
      | (with_reducible exact LeO.refl _)
      | (with_reducible exact LeO.none _)
      | (with_reducible refine LeO.ite ?_ ?_)
      | (with_reducible refine LeO.bind ?_ (fun _ => ?_))
      | exact ih0 _ _ _ _ _ _ _ _ _ _ _ _
      | exact spec_l01Join.mono _ _ _
      | exact spec_l05Head.mono _ _ _ _ _ _ _ _ _ _ _ _
      | exact LeO.none _
      | refine LeO.ite ?_ ?_
      | refine LeO.bind ?_ (fun _ => ?_)
theorem spec_EncodeIP.mono : ∀ a0 a1 a2 a3 a4 a5 a6 a7 a8 a9 a10 k, LeO (spec_EncodeIP.f k a0 a1 a2 a3 a4 a5 a6 a7 a8 a9 a10) (spec_EncodeIP.f (k + 1) a0 a1 a2 a3 a4 a5 a6 a7 a8 a9 a10) := by
 intro a0 a1 a2 a3 a4 a5 a6 a7 a8 a9 a10 k
 have ih0 := spec_EncodeIP.mono_l k
 unfold spec_EncodeIP.f
 repeat' first
     | (with_reducible exact ih0 _ _ _ _ _ _ _ _ _ _ _ _)
     | (with_reducible exact spec_l01Join.mono _ _ _)
     | (with_reducible exact spec_l05Head.mono _ _ _ _ _ _ _ _ _ _ _ _)
     | (with_reducible exact LeO.refl _)
     | (with_reducible exact LeO.none _)
     | (with_reducible refine LeO.ite ?_ ?_)
     | (with_reducible refine LeO.bind ?_ (fun _ => ?_))
     | exact ih0 _ _ _ _ _ _ _ _ _ _ _ _
     | exact spec_l01Join.mono _ _ _
     | exact spec_l05Head.mono _ _ _ _ _ _ _ _ _ _ _ _
     | exact LeO.none _
     | refine LeO.ite ?_ ?_
     | refine LeO.bind ?_ (fun _ => ?_)
set_option maxHeartbeats 60000000 in
set_option maxRecDepth 100000 in
theorem spec_EncodeIP.calls (k : Nat) (a0_0 : Int) (a0_1 : Int) (a0_2 : Bool) (a0_3 : Bool) (a0_4 : Int) (a0_5 : Int) (a0_6 : Int) (a0_7 : Int) (a0_8 : Int) (A0_9 : Option Addr) (c0_9 : Nat) (l0_9 : List Int) (A0_10 : Option Addr) (c0_10 : Nat) (l0_10 : List Int) (r1 : List Int) (r2 : Int) (w : World) (hr0_9 : Kd.C (Kd.int .u8) w A0_9 l0_9.length l0_9) (hc0_9 : l0_9.length ≤ c0_9) (hr0_10 : Kd.C (Kd.int .u8) w A0_10 l0_10.length l0_10) (hc0_10 : l0_10.length ≤ c0_10) (h : spec_EncodeIP.f k a0_0 a0_1 a0_2 a0_3 a0_4 a0_5 a0_6 a0_7 a0_8 l0_9 l0_10 = some (r1, r2)) :
 Calls Try.prog 14 #[.agg #[.int .i64 a0_0, .int .i64 a0_1, .bool a0_2, .bool a0_3, .int .i64 a0_4, .int .i64 a0_5, .int .i64 a0_6, .int .i64 a0_7, .int .i64 a0_8, .slice A0_9 l0_9.length c0_9, .slice A0_10 l0_10.length c0_10]] w fun e w' => ∃ v0_ : Value, e = .returned (.tuple #[v0_, .int .i64 r2]) ∧ Kd.R (Kd.int .u8) 5 w' w.heap.size (fun _ => True) v0_ r1 ∧ Below w.heap.size w w' := by
 have hu29 := Try.underlying29
 have HR0_9 := Aside0.mk hr0_9
 have HC0_9 := Aside0.mk hc0_9
 clear hr0_9 hc0_9
 have HR0_10 := Aside0.mk hr0_10
 have HC0_10 := Aside0.mk hc0_10
 clear hr0_10 hc0_10
 have HB := Aside0.mk (Below.refl w.heap.size w)
 have H : ((spec_l05OK.f a0_0 a0_1 a0_2 a0_3 a0_4 a0_5 a0_6 a0_7 a0_8 l0_9 l0_10).bind fun t185 => (if t185 = true then (if (wrap64 ((wrap64 (20 + (l0_9.length : Int))) + (l0_10.length : Int))) > 65535 then (spec_EncodeIP.j0 k true a0_0 a0_1 a0_2 a0_3 a0_4 a0_5 a0_6 a0_7 a0_8 l0_9 l0_10) else (spec_EncodeIP.j0 k (decide ((wrap64 (a0_4 + (l0_10.length : Int))) > 65535)) a0_0 a0_1 a0_2 a0_3 a0_4 a0_5 a0_6 a0_7 a0_8 l0_9 l0_10)) else (some (([] : List Int), 1)))) = some (r1, r2) := h
 clear h
 replace H := Option.bind_eq_some_iff.mp H
 obtain ⟨t185, A20, H⟩ := H
 replace H : (if t185 = true then (if (wrap64 ((wrap64 (20 + (l0_9.length : Int))) + (l0_10.length : Int))) > 65535 then (spec_EncodeIP.j0 k true a0_0 a0_1 a0_2 a0_3 a0_4 a0_5 a0_6 a0_7 a0_8 l0_9 l0_10) else (spec_EncodeIP.j0 k (decide ((wrap64 (a0_4 + (l0_10.length : Int))) > 65535)) a0_0 a0_1 a0_2 a0_3 a0_4 a0_5 a0_6 a0_7 a0_8 l0_9 l0_10)) else (some (([] : List Int), 1))) = some (r1, r2) := H
 have A2 := Aside0.mk A20
 clear A20
 by_cases c3 : t185 = true
 {
 subst c3
 have H1 : (if (wrap64 ((wrap64 (20 + (l0_9.length : Int))) + (l0_10.length : Int))) > 65535 then (spec_EncodeIP.j0 k true a0_0 a0_1 a0_2 a0_3 a0_4 a0_5 a0_6 a0_7 a0_8 l0_9 l0_10) else (spec_EncodeIP.j0 k (decide ((wrap64 (a0_4 + (l0_10.length : Int))) > 65535)) a0_0 a0_1 a0_2 a0_3 a0_4 a0_5 a0_6 a0_7 a0_8 l0_9 l0_10)) = some (r1, r2) := by rw [if_pos rfl] at H; exact H
 clear H
 have H := H1
 clear H1
 have HC4 := Aside0.mk H
 clear H
 go_enter Try.func14, Try.ntmps14
 go_upto_region 3 with (first | ((with_reducible refine gate_dst (N := 1) rfl ?_); (try (refine gate_guard (by rfl) ?_; dsimp only)); refine box_event ?hg (N := 1) ?hd (cs := #[.int .i64 a0_0, .int .i64 a0_1, .bool a0_2, .bool a0_3, .int .i64 a0_4, .int .i64 a0_5, .int .i64 a0_6, .int .i64 a0_7, .int .i64 a0_8, .slice A0_9 l0_9.length c0_9, .slice A0_10 l0_10.length c0_10]) (t := 29) ?hr ?_; (case hd => rfl); (case hg => rfl); (case hr => first | (go_simp; done) | (go_simp; rfl)); intro gb184 hg w1001 hbox hb; have n0_ := Aside0.mk (below_step wB hb); have n1_ := Aside0.mk (hbox); have n2_ := Aside0.mk ((by rw [hg]; exact (below_size wB) : w.heap.size ≤ gb184)); have n3_ := Aside0.mk ((by rw [hg]; exact (below_size wB) : w.heap.size ≤ gb184)); clear HB; have HB := n0_; have BK184 := n1_; have GW184 := n2_; have GE184 := n3_; clear n0_ n1_ n2_ n3_; clear hb hbox hg; obtain ⟨⟨hcz1002_0, hcz1002_1, hcz1002_2, hcz1002_3, hcz1002_4, hcz1002_5, hcz1002_6, hcz1002_7, hcz1002_8, hcz1002_9, hcz1002_10⟩, hfz1002_0, hfz1002_1, hfz1002_2, hfz1002_3, hfz1002_4, hfz1002_5, hfz1002_6, hfz1002_7, hfz1002_8, hfz1002_9, hfz1002_10⟩ := cells11 BK184.out) | ((with_reducible refine gate_callee (f := 26) rfl ?_); refine goesL_ (some 5) rfl rfl Try.func26 (by kernel_rfl) rfl #[.agg #[.int .i64 a0_0, .int .i64 a0_1, .bool a0_2, .bool a0_3, .int .i64 a0_4, .int .i64 a0_5, .int .i64 a0_6, .int .i64 a0_7, .int .i64 a0_8, .slice A0_9 l0_9.length c0_9, .slice A0_10 l0_10.length c0_10]] rfl wT ?_; (with_reducible refine (spec_l05OK.calls a0_0 a0_1 a0_2 a0_3 a0_4 a0_5 a0_6 a0_7 a0_8 _ _ l0_9 _ _ l0_10 true _ ?side1 ?side2 ?side3 ?side4 A2.out).mono ?_); (case side1 => exact Kd.C_below HR0_9.out wB); (case side2 => exact HC0_9.out); (case side3 => exact Kd.C_below HR0_10.out wB); (case side4 => exact HC0_10.out); rintro e w1003 ⟨rfl, hb⟩; refine ⟨_, rfl, ?_⟩; have n0_ := Aside0.mk (blk_below (Bh BK184) hb); have n1_ := Aside0.mk (below_step wB hb); clear BK184; clear HB; have BK184 := n0_; have HB := n1_; clear n0_ n1_; (try clear hb); (try clear hb2); (try clear hk); (try clear hi)))
 (try simp only [Act.put, List.setIfInBounds_toArray, List.set_cons_zero, List.set_cons_succ])
 go_cut [24] (fun v24 wc => ∃ (kq : Nat) (x24_3 : Bool), v24 = .bool x24_3 ∧ Aside0 (spec_EncodeIP.j0 kq x24_3 a0_0 a0_1 a0_2 a0_3 a0_4 a0_5 a0_6 a0_7 a0_8 l0_9 l0_10 = some (r1, r2)) ∧ Aside0 (kq ≤ k) ∧ Aside0 (wc.heap[gb184]? = some (.cells #[.int .i64 a0_0, .int .i64 a0_1, .bool a0_2, .bool a0_3, .int .i64 a0_4, .int .i64 a0_5, .int .i64 a0_6, .int .i64 a0_7, .int .i64 a0_8, (.slice A0_9 l0_9.length c0_9), (.slice A0_10 l0_10.length c0_10)] 29 (0, 0))) ∧ Aside0 (Below w.heap.size w wc))
 case first => (
 have H := HC4.out
 clear HC4
 by_cases c1004 : (wrap64 ((wrap64 (20 + (l0_9.length : Int))) + (l0_10.length : Int))) > 65535
 {
 rw [if_pos c1004] at H
 have c1004b0 : decide (65535 < (wrap64 ((wrap64 (20 + (l0_9.length : Int))) + (l0_10.length : Int)))) = true := decide_eq_true c1004
 clear c1004
 (first | rw [c1004b0] | rw [c1004b1] | (simp only [i64_w, i32_w]; rw [c1004b0]) | skip)
 have H' := Aside0.mk H
 clear H
 obtain ⟨⟨hcz2001_0, hcz2001_1, hcz2001_2, hcz2001_3, hcz2001_4, hcz2001_5, hcz2001_6, hcz2001_7, hcz2001_8, hcz2001_9, hcz2001_10⟩, hfz2001_0, hfz2001_1, hfz2001_2, hfz2001_3, hfz2001_4, hfz2001_5, hfz2001_6, hfz2001_7, hfz2001_8, hfz2001_9, hfz2001_10⟩ := cells11 BK184.out
 go_wp2
 go_meet
 case rel => exact ⟨_, (true), (by first | rfl | (simp; done) | (simp [*]; done)), H', ⟨by first | omega | exact Nat.le_refl _⟩, ⟨Bh BK184⟩, ⟨wB⟩⟩
 }
 {
 rw [if_neg c1004] at H
 have c1004b0 : decide (65535 < (wrap64 ((wrap64 (20 + (l0_9.length : Int))) + (l0_10.length : Int)))) = false := decide_eq_false c1004
 clear c1004
 (first | rw [c1004b0] | rw [c1004b1] | (simp only [i64_w, i32_w]; rw [c1004b0]) | skip)
 have H' := Aside0.mk H
 clear H
 obtain ⟨⟨hcz2001_0, hcz2001_1, hcz2001_2, hcz2001_3, hcz2001_4, hcz2001_5, hcz2001_6, hcz2001_7, hcz2001_8, hcz2001_9, hcz2001_10⟩, hfz2001_0, hfz2001_1, hfz2001_2, hfz2001_3, hfz2001_4, hfz2001_5, hfz2001_6, hfz2001_7, hfz2001_8, hfz2001_9, hfz2001_10⟩ := cells11 BK184.out
 go_wp2
 go_meet
 case rel => exact ⟨_, (decide ((wrap64 (a0_4 + (l0_10.length : Int))) > 65535)), (by first | rfl | (simp; done) | (simp [*]; done)), H', ⟨by first | omega | exact Nat.le_refl _⟩, ⟨Bh BK184⟩, ⟨wB⟩⟩
 }
 )
 case rest => (
 clear HC4
 try clear c0
 try clear c3
 try clear c1004
 try clear c1004b0
 try clear c1004b1
 try clear hcz1002_0 hcz1002_1 hcz1002_10 hcz1002_2 hcz1002_3 hcz1002_4 hcz1002_5 hcz1002_6 hcz1002_7 hcz1002_8 hcz1002_9 hfz1002_0 hfz1002_1 hfz1002_10 hfz1002_2 hfz1002_3 hfz1002_4 hfz1002_5 hfz1002_6 hfz1002_7 hfz1002_8 hfz1002_9
 try clear hcz2001_0 hcz2001_1 hcz2001_10 hcz2001_2 hcz2001_3 hcz2001_4 hcz2001_5 hcz2001_6 hcz2001_7 hcz2001_8 hcz2001_9 hfz2001_0 hfz2001_1 hfz2001_10 hfz2001_2 hfz2001_3 hfz2001_4 hfz2001_5 hfz2001_6 hfz2001_7 hfz2001_8 hfz2001_9
 obtain ⟨kq, x24_3, rfl, HA, HJ3, BK184, HB⟩ := hcut
 cases kq with
 | zero => exact absurd HA.out (by simp [spec_EncodeIP.j0])
 | succ kj3 => {
 have H := HA.out
 clear HA
 simp only [spec_EncodeIP.j0] at H
 by_cases c1005 : x24_3 = true
 {
 subst c1005
 have H1 : (some (([] : List Int), 7)) = some (r1, r2) := by rw [if_pos rfl] at H; exact H
 clear H
 have H := H1
 clear H1
 simp only [Option.some.injEq, Prod.mk.injEq] at H
 obtain ⟨rfl, rfl⟩ := H
 go_wp2
 go_ret2
 exact ⟨_, by first | rfl | (simp [errW_none, errW_some] <;> rfl) | (simp [*, errW_none, errW_some] <;> rfl), by first | exact Kd.R_nil _ _ _ _ _ | exact Kd.N_nil _ _ _ _ _ | exact Kd.V_nil _ _ _ _ _ | exact Kd.Q_nil _ _ _ _ _ | exact Kd.S_nil _ _ _ _ _, wB⟩
 }
 {
 replace c1005 := Bool.eq_false_iff.mpr c1005
 subst c1005
 have H1 : ((spec_l05Head.f kj3 a0_0 a0_1 a0_2 a0_3 a0_4 a0_5 a0_6 a0_7 a0_8 l0_9 l0_10).bind fun t186 => ((spec_l01Join.f kj3 t186 l0_10).bind fun t189 => (some (t189, 0)))) = some (r1, r2) := by rw [if_neg (show ¬ (false = true) by decide)] at H; exact H
 clear H
 have H := H1
 clear H1
 replace H := Option.bind_eq_some_iff.mp H
 obtain ⟨t186, A10060, H⟩ := H
 replace H : ((spec_l01Join.f kj3 t186 l0_10).bind fun t189 => (some (t189, 0))) = some (r1, r2) := H
 have A1006 := Aside0.mk A10060
 clear A10060
 replace H := Option.bind_eq_some_iff.mp H
 obtain ⟨t189, A10070, H⟩ := H
 replace H : (some (t189, 0)) = some (r1, r2) := H
 have A1007 := Aside0.mk A10070
 clear A10070
 simp only [Option.some.injEq, Prod.mk.injEq] at H
 obtain ⟨rfl, rfl⟩ := H
 try go_wp2
 have n0_ := Aside0.mk (blk_drew BK184.out)
 have n1_ := Aside0.mk (below_drew1 HB.out)
 clear BK184
 clear HB
 have BK184 := n0_
 have HB := n1_
 clear n0_ n1_
 refine start_ (n := 7) (S := fun w' => w'.cell? ⟨gb184, 0, none⟩ = some (.int .i64 a0_0) ∧ w'.cell? ⟨gb184, 1, none⟩ = some (.int .i64 a0_1) ∧ w'.cell? ⟨gb184, 2, none⟩ = some (.bool a0_2) ∧ w'.cell? ⟨gb184, 3, none⟩ = some (.bool a0_3) ∧ w'.cell? ⟨gb184, 4, none⟩ = some (.int .i64 a0_4) ∧ w'.cell? ⟨gb184, 5, none⟩ = some (.int .i64 a0_5) ∧ w'.cell? ⟨gb184, 6, none⟩ = some (.int .i64 a0_6) ∧ w'.cell? ⟨gb184, 7, none⟩ = some (.int .i64 a0_7) ∧ w'.cell? ⟨gb184, 8, none⟩ = some (.int .i64 a0_8) ∧ w'.cell? ⟨gb184, 9, none⟩ = some (.slice A0_9 l0_9.length c0_9) ∧ w'.cell? ⟨gb184, 10, none⟩ = some (.slice A0_10 l0_10.length c0_10)) (ds := []) #[false, false, false, false, false, false, false] (by kernel_rfl) rfl rfl ⟨(blk_cell BK184.out 0).trans rfl, (blk_cell BK184.out 1).trans rfl, (blk_cell BK184.out 2).trans rfl, (blk_cell BK184.out 3).trans rfl, (blk_cell BK184.out 4).trans rfl, (blk_cell BK184.out 5).trans rfl, (blk_cell BK184.out 6).trans rfl, (blk_cell BK184.out 7).trans rfl, (blk_cell BK184.out 8).trans rfl, (blk_cell BK184.out 9).trans rfl, (blk_cell BK184.out 10).trans rfl⟩ (fun hHeld => ?_)
 generalize wc.drew = w2001 at BK184 HB hHeld ⊢
 refine pure_ (i := 2) (N := some 27) (v := ?_) (a' := ?_) #[false, false, true, false, false, false, false] rfl rfl (by kernel_rfl) (fun _ _ _ h => h) (Or.inl ⟨by rfl, ?_⟩) ?_ ?_
 rotate_left
 {
 intro w'
 go_simp
 with_reducible rfl
 }
 rotate_left
 {
 simp only [Act.put, List.setIfInBounds_toArray, List.set_cons_zero, List.set_cons_succ, i64_w, i32_w]
 rfl
 }
 refine take_ (i := 0) (N := some 25) (v := ?_) (a' := ?_) #[true, false, true, false, false, false, false] rfl rfl (by kernel_rfl) (fun _ _ _ h => h) (Or.inl ⟨by rfl, ?_⟩) hHeld ?_ ?_
 rotate_left
 {
 rintro w' ⟨s0, s1, s2, s3, s4, s5, s6, s7, s8, s9, s10⟩
 go_simp
 with_reducible rfl
 }
 rotate_left
 {
 simp only [Act.put, List.setIfInBounds_toArray, List.set_cons_zero, List.set_cons_succ, i64_w, i32_w]
 rfl
 }
 refine take_ (i := 3) (N := some 28) (v := ?_) (a' := ?_) #[true, false, true, true, false, false, false] rfl rfl (by kernel_rfl) (fun _ _ _ h => h) (Or.inl ⟨by rfl, ?_⟩) hHeld ?_ ?_
 rotate_left
 {
 rintro w' ⟨s0, s1, s2, s3, s4, s5, s6, s7, s8, s9, s10⟩
 go_simp
 with_reducible rfl
 }
 rotate_left
 {
 simp only [Act.put, List.setIfInBounds_toArray, List.set_cons_zero, List.set_cons_succ, i64_w, i32_w]
 rfl
 }
 refine one_ (i := 1) (N := some 26) #[true, true, true, true, false, false, false] rfl rfl (by kernel_rfl) (by decide) (fun K hK => ?_)
 refine goes_ Try.func28 (by kernel_rfl) rfl #[.agg #[.int .i64 a0_0, .int .i64 a0_1, .bool a0_2, .bool a0_3, .int .i64 a0_4, .int .i64 a0_5, .int .i64 a0_6, .int .i64 a0_7, .int .i64 a0_8, .slice A0_9 l0_9.length c0_9, .slice A0_10 l0_10.length c0_10]] (by rfl) rfl rfl wT ?_
 with_reducible refine (spec_l05Head.calls kj3 a0_0 a0_1 a0_2 a0_3 a0_4 a0_5 a0_6 a0_7 a0_8 _ _ l0_9 _ _ l0_10 t186 _ ?side1 ?side2 ?side3 ?side4 A1006.out).mono ?_
 (case side1 => exact Kd.C_below HR0_9.out wB)
 (case side2 => exact HC0_9.out)
 (case side3 => exact Kd.C_below HR0_10.out wB)
 (case side4 => exact HC0_10.out)
 rintro e w2002 ⟨v187, rfl, ho0, hb⟩
 refine ⟨_, rfl, ?_⟩
 have n0_ := Aside0.mk (Kd.R_lower ho0 (below_size wB))
 have n1_ := Aside0.mk (blk_below (Bh BK184) hb)
 have n2_ := Aside0.mk (below_step wB hb)
 clear BK184
 clear HB
 have HO188 := n0_
 have BK184 := n1_
 have HB := n2_
 clear n0_ n1_ n2_
 (try clear hb)
 (try clear hb2)
 (try clear hk)
 (try clear hi)
 (try clear ho0)
 obtain ⟨Ao2003, co2003, eo2003⟩ := Kd.R_slice HO188.out
 (first | subst eo2003 | (injection eo2003 with f1_ f2_ f3_; have f4_ := f1_.symm; have f5_ := f3_.symm; clear f1_ f2_ f3_; subst f4_; subst f5_))
 refine hK.out _ _ ⟨(blk_cell BK184.out 0).trans rfl, (blk_cell BK184.out 1).trans rfl, (blk_cell BK184.out 2).trans rfl, (blk_cell BK184.out 3).trans rfl, (blk_cell BK184.out 4).trans rfl, (blk_cell BK184.out 5).trans rfl, (blk_cell BK184.out 6).trans rfl, (blk_cell BK184.out 7).trans rfl, (blk_cell BK184.out 8).trans rfl, (blk_cell BK184.out 9).trans rfl, (blk_cell BK184.out 10).trans rfl⟩ (fun hHeld => ?_)
 clear hK K
 refine norm_ (a' := ?_) ?_ ?_
 rotate_left
 {
 show Act.put _ (some 26) _ = _
 simp only [Act.put, List.setIfInBounds_toArray, List.set_cons_zero, List.set_cons_succ, i64_w, i32_w]
 rfl
 }
 refine one_ (i := 4) (N := some 29) #[true, true, true, true, true, false, false] rfl rfl (by kernel_rfl) (by decide) (fun K hK => ?_)
 refine goes_ Try.func27 (by kernel_rfl) rfl #[.slice Ao2003 t186.length co2003, .slice A0_10 l0_10.length c0_10] (by rfl) rfl rfl wT ?_
 with_reducible refine (spec_l01Join.calls kj3 _ _ t186 _ _ l0_10 t189 _ ?side1 ?side2 ?side3 ?side4 A1007.out).mono ?_
 (case side1 => exact Ch HO188)
 (case side2 => exact (Kd.R_reads' HO188.out).2.1)
 (case side3 => exact Kd.C_below HR0_10.out wB)
 (case side4 => exact HC0_10.out)
 rintro e w2004 ⟨v190, rfl, ho0, hb⟩
 refine ⟨_, rfl, ?_⟩
 have n0_ := Aside0.mk (Kd.R_elder' (Rh HO188) (Kd.R_base ho0) hb)
 have n1_ := Aside0.mk (Kd.R_lower (Kd.R_new' ho0 (Kd.R_lt (Rh HO188))) (below_size wB))
 have n2_ := Aside0.mk (blk_below (Bh BK184) hb)
 have n3_ := Aside0.mk (below_step wB hb)
 clear HO188
 clear BK184
 clear HB
 have HO188 := n0_
 have HO191 := n1_
 have BK184 := n2_
 have HB := n3_
 clear n0_ n1_ n2_ n3_
 (try clear hb)
 (try clear hb2)
 (try clear hk)
 (try clear hi)
 (try clear ho0)
 refine hK.out _ _ ⟨(blk_cell BK184.out 0).trans rfl, (blk_cell BK184.out 1).trans rfl, (blk_cell BK184.out 2).trans rfl, (blk_cell BK184.out 3).trans rfl, (blk_cell BK184.out 4).trans rfl, (blk_cell BK184.out 5).trans rfl, (blk_cell BK184.out 6).trans rfl, (blk_cell BK184.out 7).trans rfl, (blk_cell BK184.out 8).trans rfl, (blk_cell BK184.out 9).trans rfl, (blk_cell BK184.out 10).trans rfl⟩ (fun hHeld => ?_)
 clear hK K
 refine norm_ (a' := ?_) ?_ ?_
 rotate_left
 {
 show Act.put _ (some 29) _ = _
 simp only [Act.put, List.setIfInBounds_toArray, List.set_cons_zero, List.set_cons_succ, i64_w, i32_w]
 rfl
 }
 refine pure_ (i := 5) (N := some 2) (v := ?_) (a' := ?_) #[true, true, true, true, true, true, false] rfl rfl (by kernel_rfl) (fun _ _ _ h => h) (Or.inl ⟨by rfl, ?_⟩) ?_ ?_
 rotate_left
 {
 intro w'
 go_simp
 with_reducible rfl
 }
 rotate_left
 {
 simp only [Act.put, List.setIfInBounds_toArray, List.set_cons_zero, List.set_cons_succ, i64_w, i32_w]
 rfl
 }
 refine pure_ (i := 6) (N := some 3) (v := ?_) (a' := ?_) #[true, true, true, true, true, true, true] rfl rfl (by kernel_rfl) (fun _ _ _ h => h) (Or.inl ⟨by rfl, ?_⟩) ?_ ?_
 rotate_left
 {
 intro w'
 go_simp
 with_reducible rfl
 }
 rotate_left
 {
 simp only [Act.put, List.setIfInBounds_toArray, List.set_cons_zero, List.set_cons_succ, i64_w, i32_w]
 rfl
 }
 refine done_ (by kernel_rfl) ?_
 try go_wp2
 go_ret2
 exact ⟨_, by first | rfl | (simp [errW_none, errW_some] <;> rfl) | (simp [*, errW_none, errW_some] <;> rfl), Kd.R_mono (Rh HO191) (fun _ hk => trivial), wB⟩
 }
 }
 )
 }
 {
 replace c3 := Bool.eq_false_iff.mpr c3
 subst c3
 have H1 : (some (([] : List Int), 1)) = some (r1, r2) := by rw [if_neg (show ¬ (false = true) by decide)] at H; exact H
 clear H
 have H := H1
 clear H1
 simp only [Option.some.injEq, Prod.mk.injEq] at H
 obtain ⟨rfl, rfl⟩ := H
 go_enter Try.func14, Try.ntmps14
 go_wp2_with (first | ((with_reducible refine gate_dst (N := 1) rfl ?_); (try (refine gate_guard (by rfl) ?_; dsimp only)); refine box_event ?hg (N := 1) ?hd (cs := #[.int .i64 a0_0, .int .i64 a0_1, .bool a0_2, .bool a0_3, .int .i64 a0_4, .int .i64 a0_5, .int .i64 a0_6, .int .i64 a0_7, .int .i64 a0_8, .slice A0_9 l0_9.length c0_9, .slice A0_10 l0_10.length c0_10]) (t := 29) ?hr ?_; (case hd => rfl); (case hg => rfl); (case hr => first | (go_simp; done) | (go_simp; rfl)); intro gb184 hg w1001 hbox hb; have n0_ := Aside0.mk (below_step wB hb); have n1_ := Aside0.mk (hbox); have n2_ := Aside0.mk ((by rw [hg]; exact (below_size wB) : w.heap.size ≤ gb184)); have n3_ := Aside0.mk ((by rw [hg]; exact (below_size wB) : w.heap.size ≤ gb184)); clear HB; have HB := n0_; have BK184 := n1_; have GW184 := n2_; have GE184 := n3_; clear n0_ n1_ n2_ n3_; clear hb hbox hg; obtain ⟨⟨hcz1002_0, hcz1002_1, hcz1002_2, hcz1002_3, hcz1002_4, hcz1002_5, hcz1002_6, hcz1002_7, hcz1002_8, hcz1002_9, hcz1002_10⟩, hfz1002_0, hfz1002_1, hfz1002_2, hfz1002_3, hfz1002_4, hfz1002_5, hfz1002_6, hfz1002_7, hfz1002_8, hfz1002_9, hfz1002_10⟩ := cells11 BK184.out) | ((with_reducible refine gate_callee (f := 26) rfl ?_); refine goesL_ (some 5) rfl rfl Try.func26 (by kernel_rfl) rfl #[.agg #[.int .i64 a0_0, .int .i64 a0_1, .bool a0_2, .bool a0_3, .int .i64 a0_4, .int .i64 a0_5, .int .i64 a0_6, .int .i64 a0_7, .int .i64 a0_8, .slice A0_9 l0_9.length c0_9, .slice A0_10 l0_10.length c0_10]] rfl wT ?_; (with_reducible refine (spec_l05OK.calls a0_0 a0_1 a0_2 a0_3 a0_4 a0_5 a0_6 a0_7 a0_8 _ _ l0_9 _ _ l0_10 false _ ?side1 ?side2 ?side3 ?side4 A2.out).mono ?_); (case side1 => exact Kd.C_below HR0_9.out wB); (case side2 => exact HC0_9.out); (case side3 => exact Kd.C_below HR0_10.out wB); (case side4 => exact HC0_10.out); rintro e w1003 ⟨rfl, hb⟩; refine ⟨_, rfl, ?_⟩; have n0_ := Aside0.mk (blk_below (Bh BK184) hb); have n1_ := Aside0.mk (below_step wB hb); clear BK184; clear HB; have BK184 := n0_; have HB := n1_; clear n0_ n1_; (try clear hb); (try clear hb2); (try clear hk); (try clear hi)))
 go_ret2
 exact ⟨_, by first | rfl | (simp [errW_none, errW_some] <;> rfl) | (simp [*, errW_none, errW_some] <;> rfl), by first | exact Kd.R_nil _ _ _ _ _ | exact Kd.N_nil _ _ _ _ _ | exact Kd.V_nil _ _ _ _ _ | exact Kd.Q_nil _ _ _ _ _ | exact Kd.S_nil _ _ _ _ _, wB⟩
 }

/-! ### spec_PacketSize: function 15 -/
def spec_PacketSize.f (a0_0 : Int) (a0_1 : Int) (a0_2 : Bool) (a0_3 : Bool) (a0_4 : Int) (a0_5 : Int) (a0_6 : Int) (a0_7 : Int) (a0_8 : Int) (l0_9 : List Int) (l0_10 : List Int) : Option (Int) := (spec_l05OK.f a0_0 a0_1 a0_2 a0_3 a0_4 a0_5 a0_6 a0_7 a0_8 l0_9 l0_10).bind fun t193 => (if t193 = true then (some (wrap64 ((wrap64 (20 + (l0_9.length : Int))) + (l0_10.length : Int)))) else (some 0))
set_option maxHeartbeats 60000000 in
set_option maxRecDepth 100000 in
theorem spec_PacketSize.calls (a0_0 : Int) (a0_1 : Int) (a0_2 : Bool) (a0_3 : Bool) (a0_4 : Int) (a0_5 : Int) (a0_6 : Int) (a0_7 : Int) (a0_8 : Int) (A0_9 : Option Addr) (c0_9 : Nat) (l0_9 : List Int) (A0_10 : Option Addr) (c0_10 : Nat) (l0_10 : List Int) (r : Int) (w : World) (hr0_9 : Kd.C (Kd.int .u8) w A0_9 l0_9.length l0_9) (hc0_9 : l0_9.length ≤ c0_9) (hr0_10 : Kd.C (Kd.int .u8) w A0_10 l0_10.length l0_10) (hc0_10 : l0_10.length ≤ c0_10) (h : spec_PacketSize.f a0_0 a0_1 a0_2 a0_3 a0_4 a0_5 a0_6 a0_7 a0_8 l0_9 l0_10 = some r) :
    Calls Try.prog 15 #[.agg #[.int .i64 a0_0, .int .i64 a0_1, .bool a0_2, .bool a0_3, .int .i64 a0_4, .int .i64 a0_5, .int .i64 a0_6, .int .i64 a0_7, .int .i64 a0_8, .slice A0_9 l0_9.length c0_9, .slice A0_10 l0_10.length c0_10]] w fun e w' => e = .returned (.int .i64 r) ∧ Below w.heap.size w w' := by
  have hu29 := Try.underlying29
  have HR0_9 := Aside0.mk hr0_9
  have HC0_9 := Aside0.mk hc0_9
  clear hr0_9 hc0_9
  have HR0_10 := Aside0.mk hr0_10
  have HC0_10 := Aside0.mk hc0_10
  clear hr0_10 hc0_10
  have HB := Aside0.mk (Below.refl w.heap.size w)
  have H : ((spec_l05OK.f a0_0 a0_1 a0_2 a0_3 a0_4 a0_5 a0_6 a0_7 a0_8 l0_9 l0_10).bind fun t193 => (if t193 = true then (some (wrap64 ((wrap64 (20 + (l0_9.length : Int))) + (l0_10.length : Int)))) else (some 0))) = some r := h
  clear h
  replace H := Option.bind_eq_some_iff.mp H
  obtain ⟨t193, A20, H⟩ := H
  replace H : (if t193 = true then (some (wrap64 ((wrap64 (20 + (l0_9.length : Int))) + (l0_10.length : Int)))) else (some 0)) = some r := H
  have A2 := Aside0.mk A20
  clear A20
  by_cases c3 : t193 = true
  · subst c3
    have H1 : (some (wrap64 ((wrap64 (20 + (l0_9.length : Int))) + (l0_10.length : Int)))) = some r := by rw [if_pos rfl] at H; exact H
    clear H
    have H := H1
    clear H1
    obtain rfl := Option.some.inj H
    go_enter Try.func15, Try.ntmps15
    go_wp2_with (first | ((with_reducible refine gate_dst (N := 1) rfl ?_); refine box_event ?hg (N := 1) ?hd (cs := #[.int .i64 a0_0, .int .i64 a0_1, .bool a0_2, .bool a0_3, .int .i64 a0_4, .int .i64 a0_5, .int .i64 a0_6, .int .i64 a0_7, .int .i64 a0_8, .slice A0_9 l0_9.length c0_9, .slice A0_10 l0_10.length c0_10]) (t := 29) ?hr ?_; (case hd => rfl); (case hg => rfl); (case hr => first | (go_simp; done) | (go_simp; rfl)); intro gb192 hg w1001 hbox hb; have n0_ := Aside0.mk (below_step wB hb); have n1_ := Aside0.mk (hbox); have n2_ := Aside0.mk ((by rw [hg]; exact (below_size wB) : w.heap.size ≤ gb192)); have n3_ := Aside0.mk ((by rw [hg]; exact (below_size wB) : w.heap.size ≤ gb192)); clear HB; have HB := n0_; have BK192 := n1_; have GW192 := n2_; have GE192 := n3_; clear n0_ n1_ n2_ n3_; clear hb hbox hg; obtain ⟨⟨hcz1002_0, hcz1002_1, hcz1002_2, hcz1002_3, hcz1002_4, hcz1002_5, hcz1002_6, hcz1002_7, hcz1002_8, hcz1002_9, hcz1002_10⟩, hfz1002_0, hfz1002_1, hfz1002_2, hfz1002_3, hfz1002_4, hfz1002_5, hfz1002_6, hfz1002_7, hfz1002_8, hfz1002_9, hfz1002_10⟩ := cells11 BK192.out) | ((with_reducible refine gate_callee (f := 26) rfl ?_); refine goesL_ (some 4) rfl rfl Try.func26 (by kernel_rfl) rfl #[.agg #[.int .i64 a0_0, .int .i64 a0_1, .bool a0_2, .bool a0_3, .int .i64 a0_4, .int .i64 a0_5, .int .i64 a0_6, .int .i64 a0_7, .int .i64 a0_8, .slice A0_9 l0_9.length c0_9, .slice A0_10 l0_10.length c0_10]] rfl wT ?_; (with_reducible refine (spec_l05OK.calls a0_0 a0_1 a0_2 a0_3 a0_4 a0_5 a0_6 a0_7 a0_8 _ _ l0_9 _ _ l0_10 true _ ?side1 ?side2 ?side3 ?side4 A2.out).mono ?_); (case side1 => exact Kd.C_below HR0_9.out wB); (case side2 => exact HC0_9.out); (case side3 => exact Kd.C_below HR0_10.out wB); (case side4 => exact HC0_10.out); rintro e w1003 ⟨rfl, hb⟩; refine ⟨_, rfl, ?_⟩; have n0_ := Aside0.mk (blk_below (Bh BK192) hb); have n1_ := Aside0.mk (below_step wB hb); clear BK192; clear HB; have BK192 := n0_; have HB := n1_; clear n0_ n1_; (try clear hb); (try clear hb2); (try clear hk); (try clear hi); obtain ⟨⟨hcz1004_0, hcz1004_1, hcz1004_2, hcz1004_3, hcz1004_4, hcz1004_5, hcz1004_6, hcz1004_7, hcz1004_8, hcz1004_9, hcz1004_10⟩, hfz1004_0, hfz1004_1, hfz1004_2, hfz1004_3, hfz1004_4, hfz1004_5, hfz1004_6, hfz1004_7, hfz1004_8, hfz1004_9, hfz1004_10⟩ := cells11 BK192.out))
    go_ret
    exact ⟨by first | rfl | (simp [errW_none, errW_some] <;> rfl) | (simp [*, errW_none, errW_some] <;> rfl), wB⟩
  · replace c3 := Bool.eq_false_iff.mpr c3
    subst c3
    have H1 : (some 0) = some r := by rw [if_neg (show ¬ (false = true) by decide)] at H; exact H
    clear H
    have H := H1
    clear H1
    obtain rfl := Option.some.inj H
    go_enter Try.func15, Try.ntmps15
    go_wp2_with (first | ((with_reducible refine gate_dst (N := 1) rfl ?_); refine box_event ?hg (N := 1) ?hd (cs := #[.int .i64 a0_0, .int .i64 a0_1, .bool a0_2, .bool a0_3, .int .i64 a0_4, .int .i64 a0_5, .int .i64 a0_6, .int .i64 a0_7, .int .i64 a0_8, .slice A0_9 l0_9.length c0_9, .slice A0_10 l0_10.length c0_10]) (t := 29) ?hr ?_; (case hd => rfl); (case hg => rfl); (case hr => first | (go_simp; done) | (go_simp; rfl)); intro gb192 hg w1001 hbox hb; have n0_ := Aside0.mk (below_step wB hb); have n1_ := Aside0.mk (hbox); have n2_ := Aside0.mk ((by rw [hg]; exact (below_size wB) : w.heap.size ≤ gb192)); have n3_ := Aside0.mk ((by rw [hg]; exact (below_size wB) : w.heap.size ≤ gb192)); clear HB; have HB := n0_; have BK192 := n1_; have GW192 := n2_; have GE192 := n3_; clear n0_ n1_ n2_ n3_; clear hb hbox hg; obtain ⟨⟨hcz1002_0, hcz1002_1, hcz1002_2, hcz1002_3, hcz1002_4, hcz1002_5, hcz1002_6, hcz1002_7, hcz1002_8, hcz1002_9, hcz1002_10⟩, hfz1002_0, hfz1002_1, hfz1002_2, hfz1002_3, hfz1002_4, hfz1002_5, hfz1002_6, hfz1002_7, hfz1002_8, hfz1002_9, hfz1002_10⟩ := cells11 BK192.out) | ((with_reducible refine gate_callee (f := 26) rfl ?_); refine goesL_ (some 4) rfl rfl Try.func26 (by kernel_rfl) rfl #[.agg #[.int .i64 a0_0, .int .i64 a0_1, .bool a0_2, .bool a0_3, .int .i64 a0_4, .int .i64 a0_5, .int .i64 a0_6, .int .i64 a0_7, .int .i64 a0_8, .slice A0_9 l0_9.length c0_9, .slice A0_10 l0_10.length c0_10]] rfl wT ?_; (with_reducible refine (spec_l05OK.calls a0_0 a0_1 a0_2 a0_3 a0_4 a0_5 a0_6 a0_7 a0_8 _ _ l0_9 _ _ l0_10 false _ ?side1 ?side2 ?side3 ?side4 A2.out).mono ?_); (case side1 => exact Kd.C_below HR0_9.out wB); (case side2 => exact HC0_9.out); (case side3 => exact Kd.C_below HR0_10.out wB); (case side4 => exact HC0_10.out); rintro e w1003 ⟨rfl, hb⟩; refine ⟨_, rfl, ?_⟩; have n0_ := Aside0.mk (blk_below (Bh BK192) hb); have n1_ := Aside0.mk (below_step wB hb); clear BK192; clear HB; have BK192 := n0_; have HB := n1_; clear n0_ n1_; (try clear hb); (try clear hb2); (try clear hk); (try clear hi)))
    go_ret
    exact ⟨by first | rfl | (simp [errW_none, errW_some] <;> rfl) | (simp [*, errW_none, errW_some] <;> rfl), wB⟩

/-! ### spec_l06CopyPacket: function 16 -/
def spec_l06CopyPacket.f (k : Nat) (a0_0 : Int) (a0_1 : Int) (a0_2 : Bool) (a0_3 : Bool) (a0_4 : Int) (a0_5 : Int) (a0_6 : Int) (a0_7 : Int) (a0_8 : Int) (l0_9 : List Int) (l0_10 : List Int) : Option (Int × Int × Bool × Bool × Int × Int × Int × Int × Int × List Int × List Int) := (spec_l01Copy.f k l0_9).bind fun t196 => ((spec_l01Copy.f k l0_10).bind fun t199 => (some (a0_0, a0_1, a0_2, a0_3, a0_4, a0_5, a0_6, a0_7, a0_8, t196, t199)))
theorem spec_l06CopyPacket.mono : ∀ a0 a1 a2 a3 a4 a5 a6 a7 a8 a9 a10 k, LeO (spec_l06CopyPacket.f k a0 a1 a2 a3 a4 a5 a6 a7 a8 a9 a10) (spec_l06CopyPacket.f (k + 1) a0 a1 a2 a3 a4 a5 a6 a7 a8 a9 a10) := by
 intro a0 a1 a2 a3 a4 a5 a6 a7 a8 a9 a10 k
 unfold spec_l06CopyPacket.f
 repeat' first
     | (with_reducible exact spec_l01Copy.mono _ _)
     | (with_reducible exact LeO.refl _)
     | (with_reducible exact LeO.none _)
     | (with_reducible refine LeO.ite ?_ ?_)
     | (with_reducible refine LeO.bind ?_ (fun _ => ?_))
     | exact spec_l01Copy.mono _ _
     | exact LeO.none _
     | refine LeO.ite ?_ ?_
     | refine LeO.bind ?_ (fun _ => ?_)
set_option maxHeartbeats 60000000 in
set_option maxRecDepth 100000 in
theorem spec_l06CopyPacket.calls (k : Nat) (a0_0 : Int) (a0_1 : Int) (a0_2 : Bool) (a0_3 : Bool) (a0_4 : Int) (a0_5 : Int) (a0_6 : Int) (a0_7 : Int) (a0_8 : Int) (A0_9 : Option Addr) (c0_9 : Nat) (l0_9 : List Int) (A0_10 : Option Addr) (c0_10 : Nat) (l0_10 : List Int) (r1 : Int) (r2 : Int) (r3 : Bool) (r4 : Bool) (r5 : Int) (r6 : Int) (r7 : Int) (r8 : Int) (r9 : Int) (r10 : List Int) (r11 : List Int) (w : World) (hr0_9 : Kd.C (Kd.int .u8) w A0_9 l0_9.length l0_9) (hc0_9 : l0_9.length ≤ c0_9) (hr0_10 : Kd.C (Kd.int .u8) w A0_10 l0_10.length l0_10) (hc0_10 : l0_10.length ≤ c0_10) (h : spec_l06CopyPacket.f k a0_0 a0_1 a0_2 a0_3 a0_4 a0_5 a0_6 a0_7 a0_8 l0_9 l0_10 = some (r1, r2, r3, r4, r5, r6, r7, r8, r9, r10, r11)) :
 Calls Try.prog 16 #[.agg #[.int .i64 a0_0, .int .i64 a0_1, .bool a0_2, .bool a0_3, .int .i64 a0_4, .int .i64 a0_5, .int .i64 a0_6, .int .i64 a0_7, .int .i64 a0_8, .slice A0_9 l0_9.length c0_9, .slice A0_10 l0_10.length c0_10]] w fun e w' => ∃ v9_ v10_ : Value, e = .returned (.agg #[.int .i64 r1, .int .i64 r2, .bool r3, .bool r4, .int .i64 r5, .int .i64 r6, .int .i64 r7, .int .i64 r8, .int .i64 r9, v9_, v10_]) ∧ Kd.R (Kd.int .u8) 5 w' w.heap.size (fun k_ => some k_ ≠ (v10_ : Value).ownBlock) v9_ r10 ∧ Kd.R (Kd.int .u8) 5 w' w.heap.size (fun k_ => some k_ ≠ (v9_ : Value).ownBlock) v10_ r11 ∧ Below w.heap.size w w' := by
 have hu29 := Try.underlying29
 have HR0_9 := Aside0.mk hr0_9
 have HC0_9 := Aside0.mk hc0_9
 clear hr0_9 hc0_9
 have HR0_10 := Aside0.mk hr0_10
 have HC0_10 := Aside0.mk hc0_10
 clear hr0_10 hc0_10
 have HB := Aside0.mk (Below.refl w.heap.size w)
 have H : ((spec_l01Copy.f k l0_9).bind fun t196 => ((spec_l01Copy.f k l0_10).bind fun t199 => (some (a0_0, a0_1, a0_2, a0_3, a0_4, a0_5, a0_6, a0_7, a0_8, t196, t199)))) = some (r1, r2, r3, r4, r5, r6, r7, r8, r9, r10, r11) := h
 clear h
 replace H := Option.bind_eq_some_iff.mp H
 obtain ⟨t196, A20, H⟩ := H
 replace H : ((spec_l01Copy.f k l0_10).bind fun t199 => (some (a0_0, a0_1, a0_2, a0_3, a0_4, a0_5, a0_6, a0_7, a0_8, t196, t199))) = some (r1, r2, r3, r4, r5, r6, r7, r8, r9, r10, r11) := H
 have A2 := Aside0.mk A20
 clear A20
 replace H := Option.bind_eq_some_iff.mp H
 obtain ⟨t199, A30, H⟩ := H
 replace H : (some (a0_0, a0_1, a0_2, a0_3, a0_4, a0_5, a0_6, a0_7, a0_8, t196, t199)) = some (r1, r2, r3, r4, r5, r6, r7, r8, r9, r10, r11) := H
 have A3 := Aside0.mk A30
 clear A30
 simp only [Option.some.injEq, Prod.mk.injEq] at H
 obtain ⟨rfl, rfl, rfl, rfl, rfl, rfl, rfl, rfl, rfl, rfl, rfl⟩ := H
 go_enter Try.func16, Try.ntmps16
 go_wp2_with (first | ((with_reducible refine gate_dst (N := 1) rfl ?_); refine box_event ?hg (N := 1) ?hd (cs := #[.int .i64 a0_0, .int .i64 a0_1, .bool a0_2, .bool a0_3, .int .i64 a0_4, .int .i64 a0_5, .int .i64 a0_6, .int .i64 a0_7, .int .i64 a0_8, .slice A0_9 l0_9.length c0_9, .slice A0_10 l0_10.length c0_10]) (t := 29) ?hr ?_; (case hd => rfl); (case hg => rfl); (case hr => first | (go_simp; done) | (go_simp; rfl)); intro gb194 hg w1001 hbox hb; have n0_ := Aside0.mk (below_step wB hb); have n1_ := Aside0.mk (hbox); have n2_ := Aside0.mk ((by rw [hg]; exact (below_size wB) : w.heap.size ≤ gb194)); have n3_ := Aside0.mk ((by rw [hg]; exact (below_size wB) : w.heap.size ≤ gb194)); clear HB; have HB := n0_; have BK194 := n1_; have GW194 := n2_; have GE194 := n3_; clear n0_ n1_ n2_ n3_; clear hb hbox hg) | ((with_reducible refine gate_dst (N := 2) rfl ?_); refine box_event ?hg (N := 2) ?hd (cs := #[.int .i64 0, .int .i64 0, .bool false, .bool false, .int .i64 0, .int .i64 0, .int .i64 0, .int .i64 0, .int .i64 0, .slice none 0 0, .slice none 0 0]) (t := 29) ?hr ?_; (case hd => rfl); (case hg => rfl); (case hr => first | (go_simp; done) | (go_simp; rfl)); intro gb195 hg w1002 hbox hb; have n0_ := Aside0.mk (blk_below (Bh BK194) hb); have n1_ := Aside0.mk (below_step wB hb); have n2_ := Aside0.mk (hbox); have n3_ := Aside0.mk ((by rw [hg]; exact (below_size wB) : w.heap.size ≤ gb195)); have n4_ := Aside0.mk ((by rw [hg]; exact (below_size wB) : w.heap.size ≤ gb195)); have n5_ := Aside0.mk ((by rw [hg]; exact Nat.ne_of_lt (blk_lt (Bh BK194)) : gb194 ≠ gb195)); have n6_ := Aside0.mk ((by rw [hg]; exact Nat.ne_of_gt (blk_lt (Bh BK194)) : gb195 ≠ gb194)); clear BK194; clear HB; have BK194 := n0_; have HB := n1_; have BK195 := n2_; have GW195 := n3_; have GE195 := n4_; have NB194_195 := n5_; have NB195_194 := n6_; clear n0_ n1_ n2_ n3_ n4_ n5_ n6_; clear hb hbox hg; have hnb1003 := NB194_195.out; have hnc1003 := NB195_194.out; obtain ⟨⟨hcz1004_0, hcz1004_1, hcz1004_2, hcz1004_3, hcz1004_4, hcz1004_5, hcz1004_6, hcz1004_7, hcz1004_8, hcz1004_9, hcz1004_10⟩, hfz1004_0, hfz1004_1, hfz1004_2, hfz1004_3, hfz1004_4, hfz1004_5, hfz1004_6, hfz1004_7, hfz1004_8, hfz1004_9, hfz1004_10⟩ := cells11 BK194.out) | ((with_reducible refine gate_callee (f := 17) rfl ?_); refine goesL_ (some 5) rfl rfl Try.func17 (by kernel_rfl) rfl #[.slice A0_9 l0_9.length c0_9] rfl wT ?_; (with_reducible refine (spec_l01Copy.calls k _ _ l0_9 t196 _ ?side1 ?side2 A2.out).mono ?_); (case side1 => exact Kd.C_below HR0_9.out wB); (case side2 => exact HC0_9.out); rintro e w1005 ⟨v197, rfl, ho0, hb⟩; refine ⟨_, rfl, ?_⟩; have n0_ := Aside0.mk (Kd.R_lower ho0 (below_size wB)); have n1_ := Aside0.mk (blk_below (Bh BK194) hb); have n2_ := Aside0.mk (blk_below (Bh BK195) hb); have n3_ := Aside0.mk (below_step wB hb); clear BK194; clear BK195; clear HB; have HO198 := n0_; have BK194 := n1_; have BK195 := n2_; have HB := n3_; clear n0_ n1_ n2_ n3_; (try clear hb); (try clear hb2); (try clear hk); (try clear hi); (try clear ho0); obtain ⟨Ao1006, co1006, eo1006⟩ := Kd.R_slice HO198.out; subst eo1006; obtain ⟨⟨hcz1007_0, hcz1007_1, hcz1007_2, hcz1007_3, hcz1007_4, hcz1007_5, hcz1007_6, hcz1007_7, hcz1007_8, hcz1007_9, hcz1007_10⟩, hfz1007_0, hfz1007_1, hfz1007_2, hfz1007_3, hfz1007_4, hfz1007_5, hfz1007_6, hfz1007_7, hfz1007_8, hfz1007_9, hfz1007_10⟩ := cells11 BK194.out) | ((with_reducible refine gate_callee (f := 17) rfl ?_); refine goesL_ (some 9) rfl rfl Try.func17 (by kernel_rfl) rfl #[.slice A0_10 l0_10.length c0_10] rfl wT ?_; (with_reducible refine (spec_l01Copy.calls k _ _ l0_10 t199 _ ?side1 ?side2 A3.out).mono ?_); (case side1 => exact Kd.C_below HR0_10.out wB); (case side2 => exact HC0_10.out); rintro e w1008 ⟨v200, rfl, ho0, hb⟩; refine ⟨_, rfl, ?_⟩; have n0_ := Aside0.mk (Kd.R_elder' (by (with_reducible repeat (first | apply Kd.R_alloc | apply Kd.R_drewN | apply Kd.R_drew)); exact (Kd.R_mono (Kd.R_far (p := ⟨gb194, 9, none⟩) (Kd.R_types HO198.out BK194.out (by decide)) (fun _ hk => hk.2) (.slice Ao1006 t196.length co1006)) (fun _ h_ => h_.1))) (Kd.R_base ho0) hb); have n1_ := Aside0.mk (Kd.R_lower (Kd.R_new' ho0 (Kd.R_lt (by (with_reducible repeat (first | apply Kd.R_alloc | apply Kd.R_drewN | apply Kd.R_drew)); exact (Kd.R_mono (Kd.R_far (p := ⟨gb194, 9, none⟩) (Kd.R_types HO198.out BK194.out (by decide)) (fun _ hk => hk.2) (.slice Ao1006 t196.length co1006)) (fun _ h_ => h_.1))))) (below_size wB)); have n2_ := Aside0.mk (blk_below (g := gb194) (o := .cells #[.int .i64 a0_0, .int .i64 a0_1, .bool a0_2, .bool a0_3, .int .i64 a0_4, .int .i64 a0_5, .int .i64 a0_6, .int .i64 a0_7, .int .i64 a0_8, .slice Ao1006 t196.length co1006, .slice A0_10 l0_10.length c0_10] 29 (0, 0)) (by (with_reducible repeat (first | refine blk_drewN ?_ _ | refine blk_drew ?_ | refine blk_alloc ?_ _)); refine blk_put (cs := #[.int .i64 a0_0, .int .i64 a0_1, .bool a0_2, .bool a0_3, .int .i64 a0_4, .int .i64 a0_5, .int .i64 a0_6, .int .i64 a0_7, .int .i64 a0_8, .slice A0_9 l0_9.length c0_9, .slice A0_10 l0_10.length c0_10]) ?_ 9 _ rfl; (with_reducible repeat (first | refine blk_drewN ?_ _ | refine blk_drew ?_ | refine blk_alloc ?_ _)); exact BK194.out) hb); have n3_ := Aside0.mk (blk_below (g := gb195) (o := .cells #[.int .i64 0, .int .i64 0, .bool false, .bool false, .int .i64 0, .int .i64 0, .int .i64 0, .int .i64 0, .int .i64 0, .slice none 0 0, .slice none 0 0] 29 (0, 0)) (by (with_reducible repeat (first | refine blk_drewN ?_ _ | refine blk_drew ?_ | refine blk_alloc ?_ _)); refine blk_far ?_ NB195_194.out _; (with_reducible repeat (first | refine blk_drewN ?_ _ | refine blk_drew ?_ | refine blk_alloc ?_ _)); exact BK195.out) hb); have n4_ := Aside0.mk (below_step wB hb); clear HO198; clear BK194; clear BK195; clear HB; have HO198 := n0_; have HO201 := n1_; have BK194 := n2_; have BK195 := n3_; have HB := n4_; clear n0_ n1_ n2_ n3_ n4_; (try clear hb); (try clear hb2); (try clear hk); (try clear hi); (try clear ho0); obtain ⟨Ao1009, co1009, eo1009⟩ := Kd.R_slice HO201.out; subst eo1009; obtain ⟨⟨hcz1010_0, hcz1010_1, hcz1010_2, hcz1010_3, hcz1010_4, hcz1010_5, hcz1010_6, hcz1010_7, hcz1010_8, hcz1010_9, hcz1010_10⟩, hfz1010_0, hfz1010_1, hfz1010_2, hfz1010_3, hfz1010_4, hfz1010_5, hfz1010_6, hfz1010_7, hfz1010_8, hfz1010_9, hfz1010_10⟩ := cells11 BK194.out; obtain ⟨⟨hcz1011_0, hcz1011_1, hcz1011_2, hcz1011_3, hcz1011_4, hcz1011_5, hcz1011_6, hcz1011_7, hcz1011_8, hcz1011_9, hcz1011_10⟩, hfz1011_0, hfz1011_1, hfz1011_2, hfz1011_3, hfz1011_4, hfz1011_5, hfz1011_6, hfz1011_7, hfz1011_8, hfz1011_9, hfz1011_10⟩ := cells11 BK195.out) | ((with_reducible refine gate_store (t := 29) (p := 2) rfl ?_); refine store_event (t := 29) (p := 2) (v := ?_) (w1 := ((((((((((((w1008.setCell ⟨gb194, 10, none⟩ (.slice Ao1009 t199.length co1009)).setCell ⟨gb195, 0, none⟩ (.int .i64 a0_0)).setCell ⟨gb195, 1, none⟩ (.int .i64 a0_1)).setCell ⟨gb195, 2, none⟩ (.bool a0_2)).setCell ⟨gb195, 3, none⟩ (.bool a0_3)).setCell ⟨gb195, 4, none⟩ (.int .i64 a0_4)).setCell ⟨gb195, 5, none⟩ (.int .i64 a0_5)).setCell ⟨gb195, 6, none⟩ (.int .i64 a0_6)).setCell ⟨gb195, 7, none⟩ (.int .i64 a0_7)).setCell ⟨gb195, 8, none⟩ (.int .i64 a0_8)).setCell ⟨gb195, 9, none⟩ (.slice Ao1006 t196.length co1006)).setCell ⟨gb195, 10, none⟩ (.slice Ao1009 t199.length co1009))) ?hg ?ho ?hn ?hr ?_; (case ho => rfl); (case hg => rfl); (case hn => rfl); (case hr => first | (go_simp; done) | (go_simp; rfl)); intro w1012 hw; have n0_ : Aside0 (Kd.R (Kd.int .u8) 5 w1012 w.heap.size (fun k_ => some k_ ≠ (.slice Ao1009 t199.length co1009 : Value).ownBlock) (.slice Ao1006 t196.length co1006) t196) := ⟨(by rw [hw]; exact (by (with_reducible repeat (first | apply Kd.R_alloc | apply Kd.R_drewN | apply Kd.R_drew)); exact Kd.R_mono (Kd.R_far (p := ⟨gb195, 10, none⟩) (Kd.R_far (p := ⟨gb195, 9, none⟩) (Kd.R_far (p := ⟨gb195, 8, none⟩) (Kd.R_far (p := ⟨gb195, 7, none⟩) (Kd.R_far (p := ⟨gb195, 6, none⟩) (Kd.R_far (p := ⟨gb195, 5, none⟩) (Kd.R_far (p := ⟨gb195, 4, none⟩) (Kd.R_far (p := ⟨gb195, 3, none⟩) (Kd.R_far (p := ⟨gb195, 2, none⟩) (Kd.R_far (p := ⟨gb195, 1, none⟩) (Kd.R_far (p := ⟨gb195, 0, none⟩) (Kd.R_far (p := ⟨gb194, 10, none⟩) (Kd.R_types (Kd.R_types HO198.out BK194.out (by decide)) BK195.out (by decide)) (fun _ hk => hk.1.2) (.slice Ao1009 t199.length co1009)) (fun _ hk => hk.2) (.int .i64 a0_0)) (fun _ hk => hk.2) (.int .i64 a0_1)) (fun _ hk => hk.2) (.bool a0_2)) (fun _ hk => hk.2) (.bool a0_3)) (fun _ hk => hk.2) (.int .i64 a0_4)) (fun _ hk => hk.2) (.int .i64 a0_5)) (fun _ hk => hk.2) (.int .i64 a0_6)) (fun _ hk => hk.2) (.int .i64 a0_7)) (fun _ hk => hk.2) (.int .i64 a0_8)) (fun _ hk => hk.2) (.slice Ao1006 t196.length co1006)) (fun _ hk => hk.2) (.slice Ao1009 t199.length co1009)) (fun _ hk => hk.1.1.2)))⟩; have n1_ : Aside0 (Kd.R (Kd.int .u8) 5 w1012 w.heap.size (fun k_ => some k_ ≠ (.slice Ao1006 t196.length co1006 : Value).ownBlock) (.slice Ao1009 t199.length co1009) t199) := ⟨(by rw [hw]; exact (by (with_reducible repeat (first | apply Kd.R_alloc | apply Kd.R_drewN | apply Kd.R_drew)); exact Kd.R_mono (Kd.R_far (p := ⟨gb195, 10, none⟩) (Kd.R_far (p := ⟨gb195, 9, none⟩) (Kd.R_far (p := ⟨gb195, 8, none⟩) (Kd.R_far (p := ⟨gb195, 7, none⟩) (Kd.R_far (p := ⟨gb195, 6, none⟩) (Kd.R_far (p := ⟨gb195, 5, none⟩) (Kd.R_far (p := ⟨gb195, 4, none⟩) (Kd.R_far (p := ⟨gb195, 3, none⟩) (Kd.R_far (p := ⟨gb195, 2, none⟩) (Kd.R_far (p := ⟨gb195, 1, none⟩) (Kd.R_far (p := ⟨gb195, 0, none⟩) (Kd.R_far (p := ⟨gb194, 10, none⟩) (Kd.R_types (Kd.R_types HO201.out BK194.out (by decide)) BK195.out (by decide)) (fun _ hk => hk.1.2) (.slice Ao1009 t199.length co1009)) (fun _ hk => hk.2) (.int .i64 a0_0)) (fun _ hk => hk.2) (.int .i64 a0_1)) (fun _ hk => hk.2) (.bool a0_2)) (fun _ hk => hk.2) (.bool a0_3)) (fun _ hk => hk.2) (.int .i64 a0_4)) (fun _ hk => hk.2) (.int .i64 a0_5)) (fun _ hk => hk.2) (.int .i64 a0_6)) (fun _ hk => hk.2) (.int .i64 a0_7)) (fun _ hk => hk.2) (.int .i64 a0_8)) (fun _ hk => hk.2) (.slice Ao1006 t196.length co1006)) (fun _ hk => hk.2) (.slice Ao1009 t199.length co1009)) (fun _ hk => hk.1.1.2)))⟩; have n2_ : Aside0 (w1012.heap[gb194]? = some (.cells #[.int .i64 a0_0, .int .i64 a0_1, .bool a0_2, .bool a0_3, .int .i64 a0_4, .int .i64 a0_5, .int .i64 a0_6, .int .i64 a0_7, .int .i64 a0_8, .slice Ao1006 t196.length co1006, .slice Ao1009 t199.length co1009] 29 (0, 0))) := ⟨(by rw [hw]; exact (by (with_reducible repeat (first | refine blk_drewN ?_ _ | refine blk_drew ?_ | refine blk_alloc ?_ _)); refine blk_far ?_ NB194_195.out _; (with_reducible repeat (first | refine blk_drewN ?_ _ | refine blk_drew ?_ | refine blk_alloc ?_ _)); refine blk_far ?_ NB194_195.out _; (with_reducible repeat (first | refine blk_drewN ?_ _ | refine blk_drew ?_ | refine blk_alloc ?_ _)); refine blk_far ?_ NB194_195.out _; (with_reducible repeat (first | refine blk_drewN ?_ _ | refine blk_drew ?_ | refine blk_alloc ?_ _)); refine blk_far ?_ NB194_195.out _; (with_reducible repeat (first | refine blk_drewN ?_ _ | refine blk_drew ?_ | refine blk_alloc ?_ _)); refine blk_far ?_ NB194_195.out _; (with_reducible repeat (first | refine blk_drewN ?_ _ | refine blk_drew ?_ | refine blk_alloc ?_ _)); refine blk_far ?_ NB194_195.out _; (with_reducible repeat (first | refine blk_drewN ?_ _ | refine blk_drew ?_ | refine blk_alloc ?_ _)); refine blk_far ?_ NB194_195.out _; (with_reducible repeat (first | refine blk_drewN ?_ _ | refine blk_drew ?_ | refine blk_alloc ?_ _)); refine blk_far ?_ NB194_195.out _; (with_reducible repeat (first | refine blk_drewN ?_ _ | refine blk_drew ?_ | refine blk_alloc ?_ _)); refine blk_far ?_ NB194_195.out _; (with_reducible repeat (first | refine blk_drewN ?_ _ | refine blk_drew ?_ | refine blk_alloc ?_ _)); refine blk_far ?_ NB194_195.out _; (with_reducible repeat (first | refine blk_drewN ?_ _ | refine blk_drew ?_ | refine blk_alloc ?_ _)); refine blk_far ?_ NB194_195.out _; (with_reducible repeat (first | refine blk_drewN ?_ _ | refine blk_drew ?_ | refine blk_alloc ?_ _)); refine blk_put (cs := #[.int .i64 a0_0, .int .i64 a0_1, .bool a0_2, .bool a0_3, .int .i64 a0_4, .int .i64 a0_5, .int .i64 a0_6, .int .i64 a0_7, .int .i64 a0_8, .slice Ao1006 t196.length co1006, .slice A0_10 l0_10.length c0_10]) ?_ 10 _ rfl; (with_reducible repeat (first | refine blk_drewN ?_ _ | refine blk_drew ?_ | refine blk_alloc ?_ _)); exact BK194.out))⟩; have n3_ : Aside0 (w1012.heap[gb195]? = some (.cells #[.int .i64 a0_0, .int .i64 a0_1, .bool a0_2, .bool a0_3, .int .i64 a0_4, .int .i64 a0_5, .int .i64 a0_6, .int .i64 a0_7, .int .i64 a0_8, .slice Ao1006 t196.length co1006, .slice Ao1009 t199.length co1009] 29 (0, 0))) := ⟨(by rw [hw]; exact (by (with_reducible repeat (first | refine blk_drewN ?_ _ | refine blk_drew ?_ | refine blk_alloc ?_ _)); refine blk_put (cs := #[.int .i64 a0_0, .int .i64 a0_1, .bool a0_2, .bool a0_3, .int .i64 a0_4, .int .i64 a0_5, .int .i64 a0_6, .int .i64 a0_7, .int .i64 a0_8, .slice Ao1006 t196.length co1006, .slice none 0 0]) ?_ 10 _ rfl; (with_reducible repeat (first | refine blk_drewN ?_ _ | refine blk_drew ?_ | refine blk_alloc ?_ _)); refine blk_put (cs := #[.int .i64 a0_0, .int .i64 a0_1, .bool a0_2, .bool a0_3, .int .i64 a0_4, .int .i64 a0_5, .int .i64 a0_6, .int .i64 a0_7, .int .i64 a0_8, .slice none 0 0, .slice none 0 0]) ?_ 9 _ rfl; (with_reducible repeat (first | refine blk_drewN ?_ _ | refine blk_drew ?_ | refine blk_alloc ?_ _)); refine blk_put (cs := #[.int .i64 a0_0, .int .i64 a0_1, .bool a0_2, .bool a0_3, .int .i64 a0_4, .int .i64 a0_5, .int .i64 a0_6, .int .i64 a0_7, .int .i64 0, .slice none 0 0, .slice none 0 0]) ?_ 8 _ rfl; (with_reducible repeat (first | refine blk_drewN ?_ _ | refine blk_drew ?_ | refine blk_alloc ?_ _)); refine blk_put (cs := #[.int .i64 a0_0, .int .i64 a0_1, .bool a0_2, .bool a0_3, .int .i64 a0_4, .int .i64 a0_5, .int .i64 a0_6, .int .i64 0, .int .i64 0, .slice none 0 0, .slice none 0 0]) ?_ 7 _ rfl; (with_reducible repeat (first | refine blk_drewN ?_ _ | refine blk_drew ?_ | refine blk_alloc ?_ _)); refine blk_put (cs := #[.int .i64 a0_0, .int .i64 a0_1, .bool a0_2, .bool a0_3, .int .i64 a0_4, .int .i64 a0_5, .int .i64 0, .int .i64 0, .int .i64 0, .slice none 0 0, .slice none 0 0]) ?_ 6 _ rfl; (with_reducible repeat (first | refine blk_drewN ?_ _ | refine blk_drew ?_ | refine blk_alloc ?_ _)); refine blk_put (cs := #[.int .i64 a0_0, .int .i64 a0_1, .bool a0_2, .bool a0_3, .int .i64 a0_4, .int .i64 0, .int .i64 0, .int .i64 0, .int .i64 0, .slice none 0 0, .slice none 0 0]) ?_ 5 _ rfl; (with_reducible repeat (first | refine blk_drewN ?_ _ | refine blk_drew ?_ | refine blk_alloc ?_ _)); refine blk_put (cs := #[.int .i64 a0_0, .int .i64 a0_1, .bool a0_2, .bool a0_3, .int .i64 0, .int .i64 0, .int .i64 0, .int .i64 0, .int .i64 0, .slice none 0 0, .slice none 0 0]) ?_ 4 _ rfl; (with_reducible repeat (first | refine blk_drewN ?_ _ | refine blk_drew ?_ | refine blk_alloc ?_ _)); refine blk_put (cs := #[.int .i64 a0_0, .int .i64 a0_1, .bool a0_2, .bool false, .int .i64 0, .int .i64 0, .int .i64 0, .int .i64 0, .int .i64 0, .slice none 0 0, .slice none 0 0]) ?_ 3 _ rfl; (with_reducible repeat (first | refine blk_drewN ?_ _ | refine blk_drew ?_ | refine blk_alloc ?_ _)); refine blk_put (cs := #[.int .i64 a0_0, .int .i64 a0_1, .bool false, .bool false, .int .i64 0, .int .i64 0, .int .i64 0, .int .i64 0, .int .i64 0, .slice none 0 0, .slice none 0 0]) ?_ 2 _ rfl; (with_reducible repeat (first | refine blk_drewN ?_ _ | refine blk_drew ?_ | refine blk_alloc ?_ _)); refine blk_put (cs := #[.int .i64 a0_0, .int .i64 0, .bool false, .bool false, .int .i64 0, .int .i64 0, .int .i64 0, .int .i64 0, .int .i64 0, .slice none 0 0, .slice none 0 0]) ?_ 1 _ rfl; (with_reducible repeat (first | refine blk_drewN ?_ _ | refine blk_drew ?_ | refine blk_alloc ?_ _)); refine blk_put (cs := #[.int .i64 0, .int .i64 0, .bool false, .bool false, .int .i64 0, .int .i64 0, .int .i64 0, .int .i64 0, .int .i64 0, .slice none 0 0, .slice none 0 0]) ?_ 0 _ rfl; (with_reducible repeat (first | refine blk_drewN ?_ _ | refine blk_drew ?_ | refine blk_alloc ?_ _)); refine blk_far ?_ NB195_194.out _; (with_reducible repeat (first | refine blk_drewN ?_ _ | refine blk_drew ?_ | refine blk_alloc ?_ _)); exact BK195.out))⟩; have n4_ : Aside0 (Below w.heap.size w w1012) := ⟨(by rw [hw]; exact wB)⟩; clear hw; clear HO198; clear HO201; clear BK194; clear BK195; clear HB; have HO198 := n0_; have HO201 := n1_; have BK194 := n2_; have BK195 := n3_; have HB := n4_; clear n0_ n1_ n2_ n3_ n4_))
 refine bodyPost_ret (results_cell_row rfl _ _ gb195 29 #[.int .i64 a0_0, .int .i64 a0_1, .bool a0_2, .bool a0_3, .int .i64 a0_4, .int .i64 a0_5, .int .i64 a0_6, .int .i64 a0_7, .int .i64 a0_8, .slice Ao1006 t196.length co1006, .slice Ao1009 t199.length co1009] (0, 0) _ rfl (Bh BK195) Try.underlying29 rfl (by kernel_rfl)) rfl ?_
 exact ⟨_, _, by first | rfl | (simp [errW_none, errW_some] <;> rfl) | (simp [*, errW_none, errW_some] <;> rfl), by (with_reducible repeat (first | apply Kd.R_alloc | apply Kd.R_drewN | apply Kd.R_drew)); exact HO198.out, by (with_reducible repeat (first | apply Kd.R_alloc | apply Kd.R_drewN | apply Kd.R_drew)); exact HO201.out, wB⟩

/-! ### spec_Fragment: function 5 -/
mutual
def spec_Fragment.j0 : Nat → Int → Bool → Int → Int → Bool → Bool → Int → Int → Int → Int → Int → List Int → List Int → Option ((List (S29)) × Int)
  | 0, _, _, _, _, _, _, _, _, _, _, _, _, _ => none
  | k + 1, x1, x26, x203000, x203001, x203002, x203003, x203004, x203005, x203006, x203007, x203008, x203009, x203010 => if x26 = true then (some (([] : List (S29)), 1)) else ((spec_PacketSize.f x203000 x203001 x203002 x203003 x203004 x203005 x203006 x203007 x203008 x203009 x203010).bind fun t207 => (if t207 ≤ x1 then ((spec_l06CopyPacket.f k x203000 x203001 x203002 x203003 x203004 x203005 x203006 x203007 x203008 x203009 x203010).bind fun bt208 => (some ((([(⟨bt208.1, bt208.2.1, bt208.2.2.1, bt208.2.2.2.1, bt208.2.2.2.2.1, bt208.2.2.2.2.2.1, bt208.2.2.2.2.2.2.1, bt208.2.2.2.2.2.2.2.1, bt208.2.2.2.2.2.2.2.2.1, bt208.2.2.2.2.2.2.2.2.2.1, bt208.2.2.2.2.2.2.2.2.2.2⟩ : S29)] : List (S29))), 0))) else (if x203002 = true then (spec_Fragment.j1 k (wrap64 ((wrap64 (Int.tdiv (wrap64 ((wrap64 (x1 - 20)) - (x203009.length : Int))) 8)) * 8)) true x203000 x203001 x203002 x203003 x203004 x203005 x203006 x203007 x203008 x203009 x203010) else (spec_Fragment.j1 k (wrap64 ((wrap64 (Int.tdiv (wrap64 ((wrap64 (x1 - 20)) - (x203009.length : Int))) 8)) * 8)) (decide ((wrap64 ((wrap64 (Int.tdiv (wrap64 ((wrap64 (x1 - 20)) - (x203009.length : Int))) 8)) * 8)) < 8)) x203000 x203001 x203002 x203003 x203004 x203005 x203006 x203007 x203008 x203009 x203010))))
def spec_Fragment.j1 : Nat → Int → Bool → Int → Int → Bool → Bool → Int → Int → Int → Int → Int → List Int → List Int → Option ((List (S29)) × Int)
  | 0, _, _, _, _, _, _, _, _, _, _, _, _, _ => none
  | k + 1, x8, x47, x203000, x203001, x203002, x203003, x203004, x203005, x203006, x203007, x203008, x203009, x203010 => if x47 = true then (some (([] : List (S29)), 7)) else (spec_Fragment.l0 k x8 (([] : List (S29))) 0 x203000 x203001 x203002 x203003 x203004 x203005 x203006 x203007 x203008 x203009 x203010)
def spec_Fragment.l0 : Nat → Int → List (S29) → Int → Int → Int → Bool → Bool → Int → Int → Int → Int → Int → List Int → List Int → Option ((List (S29)) × Int)
  | 0, _, _, _, _, _, _, _, _, _, _, _, _, _, _ => none
  | k + 1, x8, x9, x10, x203000, x203001, x203002, x203003, x203004, x203005, x203006, x203007, x203008, x203009, x203010 => if x10 < (x203010.length : Int) then ((spec_l06CopyPacket.f k x203000 x203001 x203002 x203003 x203004 x203005 x203006 x203007 x203008 x203009 x203010).bind fun bt229 => (if (wrap64 (x10 + x8)) < (x203010.length : Int) then (if 0 ≤ x10 then (if x10 ≤ (wrap64 (x10 + x8)) then (if (wrap64 (x10 + x8)) ≤ (x203010.length : Int) then ((spec_l01Copy.f k ((x203010.take ((wrap64 (x10 + x8)) : Int).toNat).drop (x10 : Int).toNat)).bind fun t246 => (if x9.length < 1256584717458 then (spec_Fragment.l0 k x8 (x9 ++ [(⟨bt229.1, bt229.2.1, bt229.2.2.1, true, wrap64 (x203004 + x10), bt229.2.2.2.2.2.1, bt229.2.2.2.2.2.2.1, bt229.2.2.2.2.2.2.2.1, bt229.2.2.2.2.2.2.2.2.1, bt229.2.2.2.2.2.2.2.2.2.1, t246⟩ : S29)]) (wrap64 (x10 + x8)) x203000 x203001 x203002 x203003 x203004 x203005 x203006 x203007 x203008 x203009 x203010) else (none))) else (none)) else (none)) else (none)) else (if 0 ≤ x10 then (if x10 ≤ (x203010.length : Int) then ((spec_l01Copy.f k (x203010.drop (x10 : Int).toNat)).bind fun t253 => (if x9.length < 1256584717458 then (spec_Fragment.l0 k x8 (x9 ++ [(⟨bt229.1, bt229.2.1, bt229.2.2.1, bt229.2.2.2.1, wrap64 (x203004 + x10), bt229.2.2.2.2.2.1, bt229.2.2.2.2.2.2.1, bt229.2.2.2.2.2.2.2.1, bt229.2.2.2.2.2.2.2.2.1, bt229.2.2.2.2.2.2.2.2.2.1, t253⟩ : S29)]) (wrap64 (x10 + x8)) x203000 x203001 x203002 x203003 x203004 x203005 x203006 x203007 x203008 x203009 x203010) else (none))) else (none)) else (none)))) else (some (x9, 0))
end
def spec_Fragment.f (k : Nat) (a0_0 : Int) (a0_1 : Int) (a0_2 : Bool) (a0_3 : Bool) (a0_4 : Int) (a0_5 : Int) (a0_6 : Int) (a0_7 : Int) (a0_8 : Int) (l0_9 : List Int) (l0_10 : List Int) (a1 : Int) : Option ((List (S29)) × Int) := (spec_EncodeIP.f k a0_0 a0_1 a0_2 a0_3 a0_4 a0_5 a0_6 a0_7 a0_8 l0_9 l0_10).bind fun bt203 => (if bt203.2 = 0 then (if a1 < 68 then (spec_Fragment.j0 k a1 true a0_0 a0_1 a0_2 a0_3 a0_4 a0_5 a0_6 a0_7 a0_8 l0_9 l0_10) else (spec_Fragment.j0 k a1 (decide (a1 > 65535)) a0_0 a0_1 a0_2 a0_3 a0_4 a0_5 a0_6 a0_7 a0_8 l0_9 l0_10)) else (spec_Fragment.j0 k a1 true a0_0 a0_1 a0_2 a0_3 a0_4 a0_5 a0_6 a0_7 a0_8 l0_9 l0_10))
theorem spec_Fragment.mono_l : ∀ k, (∀ y0 y1 y2 y3 y4 y5 y6 y7 y8 y9 y10 y11 y12, LeO (spec_Fragment.j0 k y0 y1 y2 y3 y4 y5 y6 y7 y8 y9 y10 y11 y12) (spec_Fragment.j0 (k + 1) y0 y1 y2 y3 y4 y5 y6 y7 y8 y9 y10 y11 y12)) ∧ (∀ y0 y1 y2 y3 y4 y5 y6 y7 y8 y9 y10 y11 y12, LeO (spec_Fragment.j1 k y0 y1 y2 y3 y4 y5 y6 y7 y8 y9 y10 y11 y12) (spec_Fragment.j1 (k + 1) y0 y1 y2 y3 y4 y5 y6 y7 y8 y9 y10 y11 y12)) ∧ (∀ y0 y1 y2 y3 y4 y5 y6 y7 y8 y9 y10 y11 y12 y13, LeO (spec_Fragment.l0 k y0 y1 y2 y3 y4 y5 y6 y7 y8 y9 y10 y11 y12 y13) (spec_Fragment.l0 (k + 1) y0 y1 y2 y3 y4 y5 y6 y7 y8 y9 y10 y11 y12 y13))
  | 0 => ⟨fun _ _ _ _ _ _ _ _ _ _ _ _ _ r h => by simp [spec_Fragment.j0] at h, fun _ _ _ _ _ _ _ _ _ _ _ _ _ r h => by simp [spec_Fragment.j1] at h, fun _ _ _ _ _ _ _ _ _ _ _ _ _ _ r h => by simp [spec_Fragment.l0] at h⟩
  | k + 1 => by
    obtain ⟨ih0, ih1, ih2⟩ := spec_Fragment.mono_l k
    refine ⟨?_, ?_, ?_⟩
    · intro y0 y1 y2 y3 y4 y5 y6 y7 y8 y9 y10 y11 y12
      unfold spec_Fragment.j0
      repeat' first
      | (with_reducible exact ih0 _ _ _ _ _ _ _ _ _ _ _ _ _)
      | (with_reducible exact ih1 _ _ _ _ _ _ _ _ _ _ _ _ _)
      | (with_reducible exact ih2 _ _ _ _ _ _ _ _ _ _ _ _ _ _)
      | (with_reducible exact spec_EncodeIP.mono _ _ _ _ _ _ _ _ _ _ _ _)
      | (with_reducible exact spec_l01Copy.mono _ _)
      | (with_reducible exact spec_l06CopyPacket.mono _ _ _ _ _ _ _ _ _ _ _ _)
      | (with_reducible exact LeO.refl _)
      | (with_reducible exact LeO.none _)
      | (with_reducible refine LeO.ite ?_ ?_)
      | (with_reducible refine LeO.bind ?_ (fun _ => ?_))
      | exact ih0 _ _ _ _ _ _ _ _ _ _ _ _ _
      | exact ih1 _ _ _ _ _ _ _ _ _ _ _ _ _
      | exact ih2 _ _ _ _ _ _ _ _ _ _ _ _ _ _
      | exact spec_EncodeIP.mono _ _ _ _ _ _ _ _ _ _ _ _
      | exact spec_l01Copy.mono _ _
      | exact spec_l06CopyPacket.mono _ _ _ _ _ _ _ _ _ _ _ _
      | exact LeO.none _
      | refine LeO.ite ?_ ?_
      | refine LeO.bind ?_ (fun _ => ?_)
    · intro y0 y1 y2 y3 y4 y5 y6 y7 y8 y9 y10 y11 y12
      unfold spec_Fragment.j1
      repeat' first
      | (with_reducible exact ih0 _ _ _ _ _ _ _ _ _ _ _ _ _)
      | (with_reducible exact ih1 _ _ _ _ _ _ _ _ _ _ _ _ _)
      | (with_reducible exact ih2 _ _ _ _ _ _ _ _ _ _ _ _ _ _)
      | (with_reducible exact spec_EncodeIP.mono _ _ _ _ _ _ _ _ _ _ _ _)
      | (with_reducible exact spec_l01Copy.mono _ _)
      | (with_reducible exact spec_l06CopyPacket.mono _ _ _ _ _ _ _ _ _ _ _ _)
      | (with_reducible exact LeO.refl _)
      | (with_reducible exact LeO.none _)
      | (with_reducible refine LeO.ite ?_ ?_)
      | (with_reducible refine LeO.bind ?_ (fun _ => ?_))
      | exact ih0 _ _ _ _ _ _ _ _ _ _ _ _ _
      | exact ih1 _ _ _ _ _ _ _ _ _ _ _ _ _
      | exact ih2 _ _ _ _ _ _ _ _ _ _ _ _ _ _
      | exact spec_EncodeIP.mono _ _ _ _ _ _ _ _ _ _ _ _
      | exact spec_l01Copy.mono _ _
      | exact spec_l06CopyPacket.mono _ _ _ _ _ _ _ _ _ _ _ _
      | exact LeO.none _
      | refine LeO.ite ?_ ?_
      | refine LeO.bind ?_ (fun _ => ?_)
    · intro y0 y1 y2 y3 y4 y5 y6 y7 y8 y9 y10 y11 y12 y13
      unfold spec_Fragment.l0
      repeat' first
      | (with_reducible exact ih0 _ _ _ _ _ _ _ _ _ _ _ _ _)
      | (with_reducible exact ih1 _ _ _ _ _ _ _ _ _ _ _ _ _)
      | (with_reducible exact ih2 _ _ _ _ _ _ _ _ _ _ _ _ _ _)
      | (with_reducible exact spec_EncodeIP.mono _ _ _ _ _ _ _ _ _ _ _ _)
      | (with_reducible exact spec_l01Copy.mono _ _)
      | (with_reducible exact spec_l06CopyPacket.mono _ _ _ _ _ _ _ _ _ _ _ _)
      | (with_reducible exact LeO.refl _)
      | (with_reducible exact LeO.none _)
      | (with_reducible refine LeO.ite ?_ ?_)
      | (with_reducible refine LeO.bind ?_ (fun _ => ?_))
      | exact ih0 _ _ _ _ _ _ _ _ _ _ _ _ _
      | exact ih1 _ _ _ _ _ _ _ _ _ _ _ _ _
      | exact ih2 _ _ _ _ _ _ _ _ _ _ _ _ _ _
      | exact spec_EncodeIP.mono _ _ _ _ _ _ _ _ _ _ _ _
      | exact spec_l01Copy.mono _ _
      | exact spec_l06CopyPacket.mono _ _ _ _ _ _ _ _ _ _ _ _
      | exact LeO.none _
      | refine LeO.ite ?_ ?_
      | refine LeO.bind ?_ (fun _ => ?_)
theorem spec_Fragment.mono : ∀ a0 a1 a2 a3 a4 a5 a6 a7 a8 a9 a10 a11 k, LeO (spec_Fragment.f k a0 a1 a2 a3 a4 a5 a6 a7 a8 a9 a10 a11) (spec_Fragment.f (k + 1) a0 a1 a2 a3 a4 a5 a6 a7 a8 a9 a10 a11) := by
 intro a0 a1 a2 a3 a4 a5 a6 a7 a8 a9 a10 a11 k
 obtain ⟨ih0, ih1, ih2⟩ := spec_Fragment.mono_l k
 unfold spec_Fragment.f
 repeat' first
     | (with_reducible exact ih0 _ _ _ _ _ _ _ _ _ _ _ _ _)
     | (with_reducible exact ih1 _ _ _ _ _ _ _ _ _ _ _ _ _)
     | (with_reducible exact ih2 _ _ _ _ _ _ _ _ _ _ _ _ _ _)
     | (with_reducible exact spec_EncodeIP.mono _ _ _ _ _ _ _ _ _ _ _ _)
     | (with_reducible exact spec_l01Copy.mono _ _)
     | (with_reducible exact spec_l06CopyPacket.mono _ _ _ _ _ _ _ _ _ _ _ _)
     | (with_reducible exact LeO.refl _)
     | (with_reducible exact LeO.none _)
     | (with_reducible refine LeO.ite ?_ ?_)
     | (with_reducible refine LeO.bind ?_ (fun _ => ?_))
     | exact ih0 _ _ _ _ _ _ _ _ _ _ _ _ _
     | exact ih1 _ _ _ _ _ _ _ _ _ _ _ _ _
     | exact ih2 _ _ _ _ _ _ _ _ _ _ _ _ _ _
     | exact spec_EncodeIP.mono _ _ _ _ _ _ _ _ _ _ _ _
     | exact spec_l01Copy.mono _ _
     | exact spec_l06CopyPacket.mono _ _ _ _ _ _ _ _ _ _ _ _
     | exact LeO.none _
     | refine LeO.ite ?_ ?_
     | refine LeO.bind ?_ (fun _ => ?_)
set_option maxHeartbeats 60000000 in
set_option maxRecDepth 100000 in
theorem spec_Fragment.calls (k : Nat) (a0_0 : Int) (a0_1 : Int) (a0_2 : Bool) (a0_3 : Bool) (a0_4 : Int) (a0_5 : Int) (a0_6 : Int) (a0_7 : Int) (a0_8 : Int) (A0_9 : Option Addr) (c0_9 : Nat) (l0_9 : List Int) (A0_10 : Option Addr) (c0_10 : Nat) (l0_10 : List Int) (a1 : Int) (r1 : List (S29)) (r2 : Int) (w : World) (hr0_9 : Kd.C (Kd.int .u8) w A0_9 l0_9.length l0_9) (hc0_9 : l0_9.length ≤ c0_9) (hr0_10 : Kd.C (Kd.int .u8) w A0_10 l0_10.length l0_10) (hc0_10 : l0_10.length ≤ c0_10) (h : spec_Fragment.f k a0_0 a0_1 a0_2 a0_3 a0_4 a0_5 a0_6 a0_7 a0_8 l0_9 l0_10 a1 = some (r1, r2)) :
 Calls Try.prog 5 #[.agg #[.int .i64 a0_0, .int .i64 a0_1, .bool a0_2, .bool a0_3, .int .i64 a0_4, .int .i64 a0_5, .int .i64 a0_6, .int .i64 a0_7, .int .i64 a0_8, .slice A0_9 l0_9.length c0_9, .slice A0_10 l0_10.length c0_10], .int .i64 a1] w fun e w' => ∃ v0_ : Value, e = .returned (.tuple #[v0_, .int .i64 r2]) ∧ Kd.N k29 29 w' w.heap.size (fun k_ => (w.heap.size ≤ k_)) v0_ r1 ∧ Below w.heap.size w w' := by
 have hu29 := Try.underlying29
 have HR0_9 := Aside0.mk hr0_9
 have HC0_9 := Aside0.mk hc0_9
 clear hr0_9 hc0_9
 have HR0_10 := Aside0.mk hr0_10
 have HC0_10 := Aside0.mk hc0_10
 clear hr0_10 hc0_10
 have HB := Aside0.mk (Below.refl w.heap.size w)
 have H : ((spec_EncodeIP.f k a0_0 a0_1 a0_2 a0_3 a0_4 a0_5 a0_6 a0_7 a0_8 l0_9 l0_10).bind fun bt203 => (if bt203.2 = 0 then (if a1 < 68 then (spec_Fragment.j0 k a1 true a0_0 a0_1 a0_2 a0_3 a0_4 a0_5 a0_6 a0_7 a0_8 l0_9 l0_10) else (spec_Fragment.j0 k a1 (decide (a1 > 65535)) a0_0 a0_1 a0_2 a0_3 a0_4 a0_5 a0_6 a0_7 a0_8 l0_9 l0_10)) else (spec_Fragment.j0 k a1 true a0_0 a0_1 a0_2 a0_3 a0_4 a0_5 a0_6 a0_7 a0_8 l0_9 l0_10))) = some (r1, r2) := h
 clear h
 replace H := Option.bind_eq_some_iff.mp H
 obtain ⟨⟨t203, t206⟩, A30, H⟩ := H
 replace H : (if t206 = 0 then (if a1 < 68 then (spec_Fragment.j0 k a1 true a0_0 a0_1 a0_2 a0_3 a0_4 a0_5 a0_6 a0_7 a0_8 l0_9 l0_10) else (spec_Fragment.j0 k a1 (decide (a1 > 65535)) a0_0 a0_1 a0_2 a0_3 a0_4 a0_5 a0_6 a0_7 a0_8 l0_9 l0_10)) else (spec_Fragment.j0 k a1 true a0_0 a0_1 a0_2 a0_3 a0_4 a0_5 a0_6 a0_7 a0_8 l0_9 l0_10)) = some (r1, r2) := H
 have A3 := Aside0.mk A30
 clear A30
 have HC4 := Aside0.mk H
 clear H
 go_enter Try.func5, Try.ntmps5
 go_upto_region 2 with (first | ((with_reducible refine gate_dst (N := 2) rfl ?_); refine box_event ?hg (N := 2) ?hd (cs := #[.int .i64 a0_0, .int .i64 a0_1, .bool a0_2, .bool a0_3, .int .i64 a0_4, .int .i64 a0_5, .int .i64 a0_6, .int .i64 a0_7, .int .i64 a0_8, .slice A0_9 l0_9.length c0_9, .slice A0_10 l0_10.length c0_10]) (t := 29) ?hr ?_; (case hd => rfl); (case hg => rfl); (case hr => first | (go_simp; done) | (go_simp; rfl)); intro gb202 hg w1001 hbox hb; have n0_ := Aside0.mk (below_step wB hb); have n1_ := Aside0.mk (hbox); have n2_ := Aside0.mk ((by rw [hg]; exact (below_size wB) : w.heap.size ≤ gb202)); have n3_ := Aside0.mk ((by rw [hg]; exact (below_size wB) : w.heap.size ≤ gb202)); clear HB; have HB := n0_; have BK202 := n1_; have GW202 := n2_; have GE202 := n3_; clear n0_ n1_ n2_ n3_; clear hb hbox hg; obtain ⟨⟨hcz1002_0, hcz1002_1, hcz1002_2, hcz1002_3, hcz1002_4, hcz1002_5, hcz1002_6, hcz1002_7, hcz1002_8, hcz1002_9, hcz1002_10⟩, hfz1002_0, hfz1002_1, hfz1002_2, hfz1002_3, hfz1002_4, hfz1002_5, hfz1002_6, hfz1002_7, hfz1002_8, hfz1002_9, hfz1002_10⟩ := cells11 BK202.out) | ((with_reducible refine gate_callee (f := 14) rfl ?_); refine goesL_ (some 14) rfl rfl Try.func14 (by kernel_rfl) rfl #[.agg #[.int .i64 a0_0, .int .i64 a0_1, .bool a0_2, .bool a0_3, .int .i64 a0_4, .int .i64 a0_5, .int .i64 a0_6, .int .i64 a0_7, .int .i64 a0_8, .slice A0_9 l0_9.length c0_9, .slice A0_10 l0_10.length c0_10]] rfl wT ?_; (with_reducible refine (spec_EncodeIP.calls k a0_0 a0_1 a0_2 a0_3 a0_4 a0_5 a0_6 a0_7 a0_8 _ _ l0_9 _ _ l0_10 t203 t206 _ ?side1 ?side2 ?side3 ?side4 A3.out).mono ?_); (case side1 => exact Kd.C_below HR0_9.out wB); (case side2 => exact HC0_9.out); (case side3 => exact Kd.C_below HR0_10.out wB); (case side4 => exact HC0_10.out); rintro e w1003 ⟨v204, rfl, ho0, hb⟩; refine ⟨_, rfl, ?_⟩; have n0_ := Aside0.mk (Kd.R_lower (Kd.R_newM (M := fun k_ => (w.heap.size ≤ k_)) ho0 (below_size wB) (fun k_ h_ => h_)) (below_size wB)); have n1_ := Aside0.mk (blk_below (Bh BK202) hb); have n2_ := Aside0.mk (below_step wB hb); clear BK202; clear HB; have HO205 := n0_; have BK202 := n1_; have HB := n2_; clear n0_ n1_ n2_; (try clear hb); (try clear hb2); (try clear hk); (try clear hi); (try clear ho0)))
 (try simp only [Act.put, List.setIfInBounds_toArray, List.set_cons_zero, List.set_cons_succ])
 go_cut [26] (fun v26 wc => ∃ (kq : Nat) (x26_3 : Bool), v26 = .bool x26_3 ∧ Aside0 (spec_Fragment.j0 kq a1 x26_3 a0_0 a0_1 a0_2 a0_3 a0_4 a0_5 a0_6 a0_7 a0_8 l0_9 l0_10 = some (r1, r2)) ∧ Aside0 (kq ≤ k) ∧ Aside0 (wc.heap[gb202]? = some (.cells #[.int .i64 a0_0, .int .i64 a0_1, .bool a0_2, .bool a0_3, .int .i64 a0_4, .int .i64 a0_5, .int .i64 a0_6, .int .i64 a0_7, .int .i64 a0_8, (.slice A0_9 l0_9.length c0_9), (.slice A0_10 l0_10.length c0_10)] 29 (0, 0))) ∧ Aside0 (Below w.heap.size w wc))
 case first => (
 have H := HC4.out
 clear HC4
 by_cases c1004 : t206 = 0
 {
 rw [if_pos c1004] at H
 have c1004b0 : (t206 == 0) = true := beq_iff_eq.mpr c1004
 have c1004b1 : (t206 != 0) = false := bne_eq_false_iff_eq.mpr c1004
 clear c1004
 (first | rw [c1004b0] | (simp only [i64_w, i32_w]; rw [c1004b0]) | skip)
 by_cases c1005 : a1 < 68
 {
 rw [if_pos c1005] at H
 have c1005b0 : decide (a1 < 68) = true := decide_eq_true c1005
 clear c1005
 have H' := Aside0.mk H
 clear H
 go_wp2
 go_meet
 case rel => exact ⟨_, (true), (by first | rfl | (simp; done) | (simp [*]; done)), H', ⟨by first | omega | exact Nat.le_refl _⟩, ⟨Bh BK202⟩, ⟨wB⟩⟩
 }
 {
 rw [if_neg c1005] at H
 have c1005b0 : decide (a1 < 68) = false := decide_eq_false c1005
 clear c1005
 have H' := Aside0.mk H
 clear H
 go_wp2
 go_meet
 case rel => exact ⟨_, (decide (a1 > 65535)), (by first | rfl | (simp; done) | (simp [*]; done)), H', ⟨by first | omega | exact Nat.le_refl _⟩, ⟨Bh BK202⟩, ⟨wB⟩⟩
 }
 }
 {
 rw [if_neg c1004] at H
 have c1004b0 : (t206 == 0) = false := beq_eq_false_iff_ne.mpr c1004
 have c1004b1 : (t206 != 0) = true := bne_iff_ne.mpr c1004
 (first | rw [c1004b0] | (simp only [i64_w, i32_w]; rw [c1004b0]) | skip)
 have H' := Aside0.mk H
 clear H
 go_wp2
 go_meet
 case rel => exact ⟨_, (true), (by first | rfl | (simp; done) | (simp [*]; done)), H', ⟨by first | omega | exact Nat.le_refl _⟩, ⟨Bh BK202⟩, ⟨wB⟩⟩
 }
 )
 case rest => (
 clear HC4
 try clear c0
 try clear c1004
 try clear c1004b0
 try clear c1004b1
 try clear c1005
 try clear c1005b0
 try clear hcz1002_0 hcz1002_1 hcz1002_10 hcz1002_2 hcz1002_3 hcz1002_4 hcz1002_5 hcz1002_6 hcz1002_7 hcz1002_8 hcz1002_9 hfz1002_0 hfz1002_1 hfz1002_10 hfz1002_2 hfz1002_3 hfz1002_4 hfz1002_5 hfz1002_6 hfz1002_7 hfz1002_8 hfz1002_9
 obtain ⟨kq, x26_3, rfl, HA, HJ3, BK202, HB⟩ := hcut
 cases kq with
 | zero => exact absurd HA.out (by simp [spec_Fragment.j0])
 | succ kj3 => {
 have H := HA.out
 clear HA
 simp only [spec_Fragment.j0] at H
 by_cases c1006 : x26_3 = true
 {
 subst c1006
 have H1 : (some (([] : List (S29)), 1)) = some (r1, r2) := by rw [if_pos rfl] at H; exact H
 clear H
 have H := H1
 clear H1
 simp only [Option.some.injEq, Prod.mk.injEq] at H
 obtain ⟨rfl, rfl⟩ := H
 go_wp2
 go_ret2
 exact ⟨_, by first | rfl | (simp [errW_none, errW_some] <;> rfl) | (simp [*, errW_none, errW_some] <;> rfl), by first | exact Kd.S_nil _ _ _ _ _ | exact Kd.N_nil _ _ _ _ _ | exact Kd.V_nil _ _ _ _ _ | exact Kd.Q_nil _ _ _ _ _ | exact Kd.R_nil _ _ _ _ _, wB⟩
 }
 {
 replace c1006 := Bool.eq_false_iff.mpr c1006
 subst c1006
 have H1 : ((spec_PacketSize.f a0_0 a0_1 a0_2 a0_3 a0_4 a0_5 a0_6 a0_7 a0_8 l0_9 l0_10).bind fun t207 => (if t207 ≤ a1 then ((spec_l06CopyPacket.f kj3 a0_0 a0_1 a0_2 a0_3 a0_4 a0_5 a0_6 a0_7 a0_8 l0_9 l0_10).bind fun bt208 => (some ((([(⟨bt208.1, bt208.2.1, bt208.2.2.1, bt208.2.2.2.1, bt208.2.2.2.2.1, bt208.2.2.2.2.2.1, bt208.2.2.2.2.2.2.1, bt208.2.2.2.2.2.2.2.1, bt208.2.2.2.2.2.2.2.2.1, bt208.2.2.2.2.2.2.2.2.2.1, bt208.2.2.2.2.2.2.2.2.2.2⟩ : S29)] : List (S29))), 0))) else (if a0_2 = true then (spec_Fragment.j1 kj3 (wrap64 ((wrap64 (Int.tdiv (wrap64 ((wrap64 (a1 - 20)) - (l0_9.length : Int))) 8)) * 8)) true a0_0 a0_1 a0_2 a0_3 a0_4 a0_5 a0_6 a0_7 a0_8 l0_9 l0_10) else (spec_Fragment.j1 kj3 (wrap64 ((wrap64 (Int.tdiv (wrap64 ((wrap64 (a1 - 20)) - (l0_9.length : Int))) 8)) * 8)) (decide ((wrap64 ((wrap64 (Int.tdiv (wrap64 ((wrap64 (a1 - 20)) - (l0_9.length : Int))) 8)) * 8)) < 8)) a0_0 a0_1 a0_2 a0_3 a0_4 a0_5 a0_6 a0_7 a0_8 l0_9 l0_10)))) = some (r1, r2) := by rw [if_neg (show ¬ (false = true) by decide)] at H; exact H
 clear H
 have H := H1
 clear H1
 replace H := Option.bind_eq_some_iff.mp H
 obtain ⟨t207, A10070, H⟩ := H
 replace H : (if t207 ≤ a1 then ((spec_l06CopyPacket.f kj3 a0_0 a0_1 a0_2 a0_3 a0_4 a0_5 a0_6 a0_7 a0_8 l0_9 l0_10).bind fun bt208 => (some ((([(⟨bt208.1, bt208.2.1, bt208.2.2.1, bt208.2.2.2.1, bt208.2.2.2.2.1, bt208.2.2.2.2.2.1, bt208.2.2.2.2.2.2.1, bt208.2.2.2.2.2.2.2.1, bt208.2.2.2.2.2.2.2.2.1, bt208.2.2.2.2.2.2.2.2.2.1, bt208.2.2.2.2.2.2.2.2.2.2⟩ : S29)] : List (S29))), 0))) else (if a0_2 = true then (spec_Fragment.j1 kj3 (wrap64 ((wrap64 (Int.tdiv (wrap64 ((wrap64 (a1 - 20)) - (l0_9.length : Int))) 8)) * 8)) true a0_0 a0_1 a0_2 a0_3 a0_4 a0_5 a0_6 a0_7 a0_8 l0_9 l0_10) else (spec_Fragment.j1 kj3 (wrap64 ((wrap64 (Int.tdiv (wrap64 ((wrap64 (a1 - 20)) - (l0_9.length : Int))) 8)) * 8)) (decide ((wrap64 ((wrap64 (Int.tdiv (wrap64 ((wrap64 (a1 - 20)) - (l0_9.length : Int))) 8)) * 8)) < 8)) a0_0 a0_1 a0_2 a0_3 a0_4 a0_5 a0_6 a0_7 a0_8 l0_9 l0_10))) = some (r1, r2) := H
 have A1007 := Aside0.mk A10070
 clear A10070
 by_cases c1008 : t207 ≤ a1
 {
 rw [if_pos c1008] at H
 have c1008b0 : decide (t207 ≤ a1) = true := decide_eq_true c1008
 clear c1008
 replace H := Option.bind_eq_some_iff.mp H
 obtain ⟨⟨t208, t209, t210, t211, t212, t213, t214, t215, t216, t217, t220⟩, A10090, H⟩ := H
 replace H : (some ((([(⟨t208, t209, t210, t211, t212, t213, t214, t215, t216, t217, t220⟩ : S29)] : List (S29))), 0)) = some (r1, r2) := H
 have A1009 := Aside0.mk A10090
 clear A10090
 obtain ⟨y223, hy223⟩ : ∃ y_ : List (S29), y_ = (([(⟨t208, t209, t210, t211, t212, t213, t214, t215, t216, t217, t220⟩ : S29)] : List (S29))) := ⟨_, rfl⟩
 replace H : (some (y223, 0)) = some (r1, r2) := by first | (rw [hy223]; with_reducible exact H) | (have H2_ := (Option.bind_some _ _).symm.trans H; rw [hy223]; with_reducible exact H2_) | (have H2_ := (Option.bind_some _ _).symm.trans H; with_reducible exact H2_) | with_reducible exact H | (rw [hy223]; exact H) | exact H
 have Ny223 := Aside0.mk hy223
 clear hy223
 simp only [Option.some.injEq, Prod.mk.injEq] at H
 obtain ⟨rfl, rfl⟩ := H
 obtain ⟨⟨hcz2001_0, hcz2001_1, hcz2001_2, hcz2001_3, hcz2001_4, hcz2001_5, hcz2001_6, hcz2001_7, hcz2001_8, hcz2001_9, hcz2001_10⟩, hfz2001_0, hfz2001_1, hfz2001_2, hfz2001_3, hfz2001_4, hfz2001_5, hfz2001_6, hfz2001_7, hfz2001_8, hfz2001_9, hfz2001_10⟩ := cells11 BK202.out
 go_wp2_with (first | ((with_reducible refine gate_callee (f := 15) rfl ?_); refine goesL_ (some 28) rfl rfl Try.func15 (by kernel_rfl) rfl #[.agg #[.int .i64 a0_0, .int .i64 a0_1, .bool a0_2, .bool a0_3, .int .i64 a0_4, .int .i64 a0_5, .int .i64 a0_6, .int .i64 a0_7, .int .i64 a0_8, .slice A0_9 l0_9.length c0_9, .slice A0_10 l0_10.length c0_10]] rfl wT ?_; (with_reducible refine (spec_PacketSize.calls a0_0 a0_1 a0_2 a0_3 a0_4 a0_5 a0_6 a0_7 a0_8 _ _ l0_9 _ _ l0_10 t207 _ ?side1 ?side2 ?side3 ?side4 A1007.out).mono ?_); (case side1 => exact Kd.C_below HR0_9.out wB); (case side2 => exact HC0_9.out); (case side3 => exact Kd.C_below HR0_10.out wB); (case side4 => exact HC0_10.out); rintro e w2002 ⟨rfl, hb⟩; refine ⟨_, rfl, ?_⟩; have n0_ := Aside0.mk (blk_below (Bh BK202) hb); have n1_ := Aside0.mk (below_step wB hb); clear BK202; clear HB; have BK202 := n0_; have HB := n1_; clear n0_ n1_; (try clear hb); (try clear hb2); (try clear hk); (try clear hi); obtain ⟨⟨hcz2003_0, hcz2003_1, hcz2003_2, hcz2003_3, hcz2003_4, hcz2003_5, hcz2003_6, hcz2003_7, hcz2003_8, hcz2003_9, hcz2003_10⟩, hfz2003_0, hfz2003_1, hfz2003_2, hfz2003_3, hfz2003_4, hfz2003_5, hfz2003_6, hfz2003_7, hfz2003_8, hfz2003_9, hfz2003_10⟩ := cells11 BK202.out) | ((with_reducible refine gate_callee (f := 16) rfl ?_); refine goesL_ (some 32) rfl rfl Try.func16 (by kernel_rfl) rfl #[.agg #[.int .i64 a0_0, .int .i64 a0_1, .bool a0_2, .bool a0_3, .int .i64 a0_4, .int .i64 a0_5, .int .i64 a0_6, .int .i64 a0_7, .int .i64 a0_8, .slice A0_9 l0_9.length c0_9, .slice A0_10 l0_10.length c0_10]] rfl wT ?_; (with_reducible refine (spec_l06CopyPacket.calls kj3 a0_0 a0_1 a0_2 a0_3 a0_4 a0_5 a0_6 a0_7 a0_8 _ _ l0_9 _ _ l0_10 t208 t209 t210 t211 t212 t213 t214 t215 t216 t217 t220 _ ?side1 ?side2 ?side3 ?side4 A1009.out).mono ?_); (case side1 => exact Kd.C_below HR0_9.out wB); (case side2 => exact HC0_9.out); (case side3 => exact Kd.C_below HR0_10.out wB); (case side4 => exact HC0_10.out); rintro e w2004 ⟨v218, v221, rfl, ho0, ho1, hb⟩; refine ⟨_, rfl, ?_⟩; have n0_ := Aside0.mk (Kd.R_lower (Kd.R_newM (M := fun k_ => (w.heap.size ≤ k_)) ho0 (below_size wB) (fun k_ h_ => h_)) (below_size wB)); have n1_ := Aside0.mk (Kd.R_lower (Kd.R_newM (M := fun k_ => (w.heap.size ≤ k_)) ho1 (below_size wB) (fun k_ h_ => h_)) (below_size wB)); have n2_ := Aside0.mk (blk_below (Bh BK202) hb); have n3_ := Aside0.mk (below_step wB hb); clear BK202; clear HB; have HO219 := n0_; have HO222 := n1_; have BK202 := n2_; have HB := n3_; clear n0_ n1_ n2_ n3_; (try clear hb); (try clear hb2); (try clear hk); (try clear hi); (try clear ho0); (try clear ho1); obtain ⟨Ao2005, co2005, eo2005⟩ := Kd.R_slice HO219.out; subst eo2005; obtain ⟨Ao2006, co2006, eo2006⟩ := Kd.R_slice HO222.out; subst eo2006) | ((with_reducible refine gate_dst (N := 33) rfl ?_); refine Kd.N_lit k29 _ 29 ?hg (N' := 33) ?hd (xs := ([(⟨t208, t209, t210, t211, t212, t213, t214, t215, t216, t217, t220⟩ : S29)] : List (S29))) (inner := [.int .i64 t208, .int .i64 t209, .bool t210, .bool t211, .int .i64 t212, .int .i64 t213, .int .i64 t214, .int .i64 t215, .int .i64 t216, .slice Ao2005 t217.length co2005, .slice Ao2006 t220.length co2006]) (ok := (fun k_ => (w.heap.size ≤ k_) ∧ k_ ≠ gb202)) (okp := (fun k_ => (w.heap.size ≤ k_) ∧ k_ ≠ gb202)) ?hr ?hp (fun _ hk => hk) ((show ∀ k_, w2004.heap.size ≤ k_ → (fun k_ => (w.heap.size ≤ k_) ∧ k_ ≠ gb202) k_ from fun k_ hk => ⟨(Nat.le_trans (below_size wB) hk), Kd.freshB (Bh BK202) k_ hk⟩) _ (Nat.le_refl _)) (Below.refl _ _) (Nat.le_refl _) (by simp) ?_; (case hd => rfl); (case hg => rfl); (case hr => first | (go_simp; done) | (go_simp; rfl)); (case hp => exact (Reps.front (show Kd.FK k29 _ _ (⟨t208, t209, t210, t211, t212, t213, t214, t215, t216, t217, t220⟩ : S29) [.int .i64 t208, .int .i64 t209, .bool t210, .bool t211, .int .i64 t212, .int .i64 t213, .int .i64 t214, .int .i64 t215, .int .i64 t216, .slice Ao2005 t217.length co2005, .slice Ao2006 t220.length co2006] from (k29_mkF _ _ (⟨t208, t209, t210, t211, t212, t213, t214, t215, t216, t217, t220⟩ : S29) (Kd.R_reads' (Kd.R_mono (ok' := (fun k_ => (w.heap.size ≤ k_) ∧ k_ ≠ gb202)) (Kd.R_types (HO219.out) BK202.out (by decide)) (fun k_ hk => ⟨hk.1.1, hk.2⟩))).2.1 (Kd.R_F (Kd.R_mono (ok' := (fun k_ => (w.heap.size ≤ k_) ∧ k_ ≠ gb202)) (Kd.R_types (HO219.out) BK202.out (by decide)) (fun k_ hk => ⟨hk.1.1, hk.2⟩))) (Kd.R_reads' (Kd.R_mono (ok' := (fun k_ => (w.heap.size ≤ k_) ∧ k_ ≠ gb202)) (Kd.R_types (HO222.out) BK202.out (by decide)) (fun k_ hk => ⟨hk.1.1, hk.2⟩))).2.1 (Kd.R_F (Kd.R_mono (ok' := (fun k_ => (w.heap.size ≤ k_) ∧ k_ ≠ gb202)) (Kd.R_types (HO222.out) BK202.out (by decide)) (fun k_ hk => ⟨hk.1.1, hk.2⟩))))) rfl (Reps.none _ _) rfl)); intro v224 w2007 ho2008 hb hg_ hnew_; clear hg_ hnew_; (first | rw [← Ny223.out] at ho2008 | (simp only [Int.reduceToNat] at ho2008; rw [← Ny223.out] at ho2008)); have n0_ := Aside0.mk (Kd.N_lower ho2008 (below_size wB)); have n1_ := Aside0.mk (blk_below (Bh BK202) hb); have n2_ := Aside0.mk (below_step wB hb); clear BK202; clear HB; clear HO219; clear HO222; have HO225 := n0_; have BK202 := n1_; have HB := n2_; clear n0_ n1_ n2_; clear hb ho2008))
 go_ret2
 exact ⟨_, by first | rfl | (simp [errW_none, errW_some] <;> rfl) | (simp [*, errW_none, errW_some] <;> rfl), by (with_reducible repeat (first | apply Kd.N_alloc | apply Kd.N_drewN | apply Kd.N_drew)); exact Kd.N_mono HO225.out (fun _ hk => hk.1), wB⟩
 }
 {
 rw [if_neg c1008] at H
 have c1008b0 : decide (t207 ≤ a1) = false := decide_eq_false c1008
 clear c1008
 have HC1010 := Aside0.mk H
 clear H
 obtain ⟨⟨hcz2001_0, hcz2001_1, hcz2001_2, hcz2001_3, hcz2001_4, hcz2001_5, hcz2001_6, hcz2001_7, hcz2001_8, hcz2001_9, hcz2001_10⟩, hfz2001_0, hfz2001_1, hfz2001_2, hfz2001_3, hfz2001_4, hfz2001_5, hfz2001_6, hfz2001_7, hfz2001_8, hfz2001_9, hfz2001_10⟩ := cells11 BK202.out
 go_upto_region 7 with (first | ((with_reducible refine gate_callee (f := 15) rfl ?_); refine goesL_ (some 28) rfl rfl Try.func15 (by kernel_rfl) rfl #[.agg #[.int .i64 a0_0, .int .i64 a0_1, .bool a0_2, .bool a0_3, .int .i64 a0_4, .int .i64 a0_5, .int .i64 a0_6, .int .i64 a0_7, .int .i64 a0_8, .slice A0_9 l0_9.length c0_9, .slice A0_10 l0_10.length c0_10]] rfl wT ?_; (with_reducible refine (spec_PacketSize.calls a0_0 a0_1 a0_2 a0_3 a0_4 a0_5 a0_6 a0_7 a0_8 _ _ l0_9 _ _ l0_10 t207 _ ?side1 ?side2 ?side3 ?side4 A1007.out).mono ?_); (case side1 => exact Kd.C_below HR0_9.out wB); (case side2 => exact HC0_9.out); (case side3 => exact Kd.C_below HR0_10.out wB); (case side4 => exact HC0_10.out); rintro e w2002 ⟨rfl, hb⟩; refine ⟨_, rfl, ?_⟩; have n0_ := Aside0.mk (blk_below (Bh BK202) hb); have n1_ := Aside0.mk (below_step wB hb); clear BK202; clear HB; have BK202 := n0_; have HB := n1_; clear n0_ n1_; (try clear hb); (try clear hb2); (try clear hk); (try clear hi); obtain ⟨⟨hcz2003_0, hcz2003_1, hcz2003_2, hcz2003_3, hcz2003_4, hcz2003_5, hcz2003_6, hcz2003_7, hcz2003_8, hcz2003_9, hcz2003_10⟩, hfz2003_0, hfz2003_1, hfz2003_2, hfz2003_3, hfz2003_4, hfz2003_5, hfz2003_6, hfz2003_7, hfz2003_8, hfz2003_9, hfz2003_10⟩ := cells11 BK202.out))
 (try simp only [Act.put, List.setIfInBounds_toArray, List.set_cons_zero, List.set_cons_succ])
 go_cut [47] (fun v47 wc => ∃ (kq : Nat) (x47_1009 : Bool), v47 = .bool x47_1009 ∧ Aside0 (spec_Fragment.j1 kq (wrap64 ((wrap64 (Int.tdiv (wrap64 ((wrap64 (a1 - 20)) - (l0_9.length : Int))) 8)) * 8)) x47_1009 a0_0 a0_1 a0_2 a0_3 a0_4 a0_5 a0_6 a0_7 a0_8 l0_9 l0_10 = some (r1, r2)) ∧ Aside0 (kq ≤ kj3) ∧ Aside0 (wc.heap[gb202]? = some (.cells #[.int .i64 a0_0, .int .i64 a0_1, .bool a0_2, .bool a0_3, .int .i64 a0_4, .int .i64 a0_5, .int .i64 a0_6, .int .i64 a0_7, .int .i64 a0_8, (.slice A0_9 l0_9.length c0_9), (.slice A0_10 l0_10.length c0_10)] 29 (0, 0))) ∧ Aside0 (Below w.heap.size w wc))
 case first => (
 have H := HC1010.out
 clear HC1010
 by_cases c2004 : a0_2 = true
 {
 subst c2004
 have H1 : (spec_Fragment.j1 kj3 (wrap64 ((wrap64 (Int.tdiv (wrap64 ((wrap64 (a1 - 20)) - (l0_9.length : Int))) 8)) * 8)) true a0_0 a0_1 true a0_3 a0_4 a0_5 a0_6 a0_7 a0_8 l0_9 l0_10) = some (r1, r2) := by rw [if_pos rfl] at H; exact H
 clear H
 have H := H1
 clear H1
 have H' := Aside0.mk H
 clear H
 obtain ⟨⟨hcz3001_0, hcz3001_1, hcz3001_2, hcz3001_3, hcz3001_4, hcz3001_5, hcz3001_6, hcz3001_7, hcz3001_8, hcz3001_9, hcz3001_10⟩, hfz3001_0, hfz3001_1, hfz3001_2, hfz3001_3, hfz3001_4, hfz3001_5, hfz3001_6, hfz3001_7, hfz3001_8, hfz3001_9, hfz3001_10⟩ := cells11 BK202.out
 go_wp2
 go_meet
 case rel => exact ⟨_, (true), (by first | rfl | (simp; done) | (simp [*]; done)), H', ⟨by have := HJ3.out; first | omega | exact Nat.le_refl _⟩, ⟨Bh BK202⟩, ⟨wB⟩⟩
 }
 {
 replace c2004 := Bool.eq_false_iff.mpr c2004
 subst c2004
 have H1 : (spec_Fragment.j1 kj3 (wrap64 ((wrap64 (Int.tdiv (wrap64 ((wrap64 (a1 - 20)) - (l0_9.length : Int))) 8)) * 8)) (decide ((wrap64 ((wrap64 (Int.tdiv (wrap64 ((wrap64 (a1 - 20)) - (l0_9.length : Int))) 8)) * 8)) < 8)) a0_0 a0_1 false a0_3 a0_4 a0_5 a0_6 a0_7 a0_8 l0_9 l0_10) = some (r1, r2) := by rw [if_neg (show ¬ (false = true) by decide)] at H; exact H
 clear H
 have H := H1
 clear H1
 have H' := Aside0.mk H
 clear H
 obtain ⟨⟨hcz3001_0, hcz3001_1, hcz3001_2, hcz3001_3, hcz3001_4, hcz3001_5, hcz3001_6, hcz3001_7, hcz3001_8, hcz3001_9, hcz3001_10⟩, hfz3001_0, hfz3001_1, hfz3001_2, hfz3001_3, hfz3001_4, hfz3001_5, hfz3001_6, hfz3001_7, hfz3001_8, hfz3001_9, hfz3001_10⟩ := cells11 BK202.out
 go_wp2
 go_meet
 case rel => exact ⟨_, (decide ((wrap64 ((wrap64 (Int.tdiv (wrap64 ((wrap64 (a1 - 20)) - (l0_9.length : Int))) 8)) * 8)) < 8)), (by first | rfl | (simp; done) | (simp [*]; done)), H', ⟨by have := HJ3.out; first | omega | exact Nat.le_refl _⟩, ⟨Bh BK202⟩, ⟨wB⟩⟩
 }
 )
 case rest => (
 clear HC1010
 try clear c0
 try clear c1004
 try clear c1004b0
 try clear c1004b1
 try clear c1005
 try clear c1005b0
 try clear c1006
 try clear c1008
 try clear c1008b0
 try clear c2004
 try clear hcz1002_0 hcz1002_1 hcz1002_10 hcz1002_2 hcz1002_3 hcz1002_4 hcz1002_5 hcz1002_6 hcz1002_7 hcz1002_8 hcz1002_9 hfz1002_0 hfz1002_1 hfz1002_10 hfz1002_2 hfz1002_3 hfz1002_4 hfz1002_5 hfz1002_6 hfz1002_7 hfz1002_8 hfz1002_9
 try clear hcz2001_0 hcz2001_1 hcz2001_10 hcz2001_2 hcz2001_3 hcz2001_4 hcz2001_5 hcz2001_6 hcz2001_7 hcz2001_8 hcz2001_9 hfz2001_0 hfz2001_1 hfz2001_10 hfz2001_2 hfz2001_3 hfz2001_4 hfz2001_5 hfz2001_6 hfz2001_7 hfz2001_8 hfz2001_9
 try clear hcz2003_0 hcz2003_1 hcz2003_10 hcz2003_2 hcz2003_3 hcz2003_4 hcz2003_5 hcz2003_6 hcz2003_7 hcz2003_8 hcz2003_9 hfz2003_0 hfz2003_1 hfz2003_10 hfz2003_2 hfz2003_3 hfz2003_4 hfz2003_5 hfz2003_6 hfz2003_7 hfz2003_8 hfz2003_9
 try clear hcz3001_0 hcz3001_1 hcz3001_10 hcz3001_2 hcz3001_3 hcz3001_4 hcz3001_5 hcz3001_6 hcz3001_7 hcz3001_8 hcz3001_9 hfz3001_0 hfz3001_1 hfz3001_10 hfz3001_2 hfz3001_3 hfz3001_4 hfz3001_5 hfz3001_6 hfz3001_7 hfz3001_8 hfz3001_9
 obtain ⟨kq, x47_1009, rfl, HA, HJ1009, BK202, HB⟩ := hcut
 cases kq with
 | zero => exact absurd HA.out (by simp [spec_Fragment.j1])
 | succ kj1009 => {
 have H := HA.out
 clear HA
 simp only [spec_Fragment.j1] at H
 by_cases c2005 : x47_1009 = true
 {
 subst c2005
 have H1 : (some (([] : List (S29)), 7)) = some (r1, r2) := by rw [if_pos rfl] at H; exact H
 clear H
 have H := H1
 clear H1
 simp only [Option.some.injEq, Prod.mk.injEq] at H
 obtain ⟨rfl, rfl⟩ := H
 go_wp2
 go_ret2
 exact ⟨_, by first | rfl | (simp [errW_none, errW_some] <;> rfl) | (simp [*, errW_none, errW_some] <;> rfl), by first | exact Kd.S_nil _ _ _ _ _ | exact Kd.N_nil _ _ _ _ _ | exact Kd.V_nil _ _ _ _ _ | exact Kd.Q_nil _ _ _ _ _ | exact Kd.R_nil _ _ _ _ _, wB⟩
 }
 {
 replace c2005 := Bool.eq_false_iff.mpr c2005
 subst c2005
 have H1 : (spec_Fragment.l0 kj1009 (wrap64 ((wrap64 (Int.tdiv (wrap64 ((wrap64 (a1 - 20)) - (l0_9.length : Int))) 8)) * 8)) (([] : List (S29))) 0 a0_0 a0_1 a0_2 a0_3 a0_4 a0_5 a0_6 a0_7 a0_8 l0_9 l0_10) = some (r1, r2) := by rw [if_neg (show ¬ (false = true) by decide)] at H; exact H
 clear H
 have H := H1
 clear H1
 obtain ⟨y226, hy226⟩ : ∃ y_ : List (S29), y_ = (([] : List (S29))) := ⟨_, rfl⟩
 replace H : (spec_Fragment.l0 kj1009 (wrap64 ((wrap64 (Int.tdiv (wrap64 ((wrap64 (a1 - 20)) - (l0_9.length : Int))) 8)) * 8)) y226 0 a0_0 a0_1 a0_2 a0_3 a0_4 a0_5 a0_6 a0_7 a0_8 l0_9 l0_10) = some (r1, r2) := by first | (rw [hy226]; with_reducible exact H) | (have H2_ := (Option.bind_some _ _).symm.trans H; rw [hy226]; with_reducible exact H2_) | (have H2_ := (Option.bind_some _ _).symm.trans H; with_reducible exact H2_) | with_reducible exact H | (rw [hy226]; exact H) | exact H
 have Ny226 := Aside0.mk hy226
 clear hy226
 have H' := Aside0.mk H
 clear H
 go_wp2_with (first | ((with_reducible refine gate_dst (N := 48) rfl ?_); refine Kd.N_lit k29 _ 29 ?hg (N' := 48) ?hd (xs := ([] : List (S29))) (inner := []) (ok := (fun k_ => (w.heap.size ≤ k_) ∧ k_ ≠ gb202)) (okp := (fun k_ => (w.heap.size ≤ k_) ∧ k_ ≠ gb202)) ?hr ?hp (fun _ hk => hk) ((show ∀ k_, wc.heap.size ≤ k_ → (fun k_ => (w.heap.size ≤ k_) ∧ k_ ≠ gb202) k_ from fun k_ hk => ⟨(Nat.le_trans (below_size wB) hk), Kd.freshB (Bh BK202) k_ hk⟩) _ (Nat.le_refl _)) (Below.refl _ _) (Nat.le_refl _) (by simp) ?_; (case hd => rfl); (case hg => rfl); (case hr => first | (go_simp; done) | (go_simp; rfl)); (case hp => exact (Reps.none _ _)); intro v227 w3001 ho3002 hb hg_ hnew_; clear hg_ hnew_; (first | rw [← Ny226.out] at ho3002 | (simp only [Int.reduceToNat] at ho3002; rw [← Ny226.out] at ho3002)); have n0_ := Aside0.mk (Kd.N_lower ho3002 (below_size wB)); have n1_ := Aside0.mk (blk_below (Bh BK202) hb); have n2_ := Aside0.mk (below_step wB hb); clear BK202; clear HB; have HO228 := n0_; have BK202 := n1_; have HB := n2_; clear n0_ n1_ n2_; clear hb ho3002))
 go_loopg [9, 10] kj1009 (fun kq v9 v10 w' => ∃ (x9_3 : List (S29)) (x10_3 : Int), v10 = .int .i64 x10_3 ∧ Aside0 (spec_Fragment.l0 kq (wrap64 ((wrap64 (Int.tdiv (wrap64 ((wrap64 (a1 - 20)) - (l0_9.length : Int))) 8)) * 8)) x9_3 x10_3 a0_0 a0_1 a0_2 a0_3 a0_4 a0_5 a0_6 a0_7 a0_8 l0_9 l0_10 = some (r1, r2)) ∧ Aside0 (kq ≤ kj1009) ∧ Aside0 (Kd.N k29 29 w' w.heap.size (fun k_ => (w.heap.size ≤ k_) ∧ k_ ≠ gb202) v9 x9_3) ∧ Aside0 (w'.heap[gb202]? = some (.cells #[.int .i64 a0_0, .int .i64 a0_1, .bool a0_2, .bool a0_3, .int .i64 a0_4, .int .i64 a0_5, .int .i64 a0_6, .int .i64 a0_7, .int .i64 a0_8, (.slice A0_9 l0_9.length c0_9), (.slice A0_10 l0_10.length c0_10)] 29 (0, 0))) ∧ Aside0 (Below w.heap.size w w'))
 case atStart => exact ⟨(y226), (0), (by first | rfl | (simp; done) | (simp [*]; done)), H', ⟨Nat.le_refl _⟩, ⟨by (with_reducible repeat (first | apply Kd.N_alloc | apply Kd.N_drewN | apply Kd.N_drew)); exact HO228.out⟩, ⟨Bh BK202⟩, ⟨wB⟩⟩
 case round => (
 clear H'
 try clear c0
 try clear c1004
 try clear c1004b0
 try clear c1004b1
 try clear c1005
 try clear c1005b0
 try clear c1006
 try clear c1008
 try clear c1008b0
 try clear c2004
 try clear c2005
 try clear hcz1002_0 hcz1002_1 hcz1002_10 hcz1002_2 hcz1002_3 hcz1002_4 hcz1002_5 hcz1002_6 hcz1002_7 hcz1002_8 hcz1002_9 hfz1002_0 hfz1002_1 hfz1002_10 hfz1002_2 hfz1002_3 hfz1002_4 hfz1002_5 hfz1002_6 hfz1002_7 hfz1002_8 hfz1002_9
 try clear hcz2001_0 hcz2001_1 hcz2001_10 hcz2001_2 hcz2001_3 hcz2001_4 hcz2001_5 hcz2001_6 hcz2001_7 hcz2001_8 hcz2001_9 hfz2001_0 hfz2001_1 hfz2001_10 hfz2001_2 hfz2001_3 hfz2001_4 hfz2001_5 hfz2001_6 hfz2001_7 hfz2001_8 hfz2001_9
 try clear hcz2003_0 hcz2003_1 hcz2003_10 hcz2003_2 hcz2003_3 hcz2003_4 hcz2003_5 hcz2003_6 hcz2003_7 hcz2003_8 hcz2003_9 hfz2003_0 hfz2003_1 hfz2003_10 hfz2003_2 hfz2003_3 hfz2003_4 hfz2003_5 hfz2003_6 hfz2003_7 hfz2003_8 hfz2003_9
 try clear hcz3001_0 hcz3001_1 hcz3001_10 hcz3001_2 hcz3001_3 hcz3001_4 hcz3001_5 hcz3001_6 hcz3001_7 hcz3001_8 hcz3001_9 hfz3001_0 hfz3001_1 hfz3001_10 hfz3001_2 hfz3001_3 hfz3001_4 hfz3001_5 hfz3001_6 hfz3001_7 hfz3001_8 hfz3001_9
 obtain ⟨x9_3, x10_3, rfl, HA, HK3, HO_9, BK202, HB⟩ := hrel
 cases gk with
 | zero => exact absurd HA.out (by simp [spec_Fragment.l0])
 | succ k3 => {
 have H := HA.out
 clear HA
 simp only [spec_Fragment.l0] at H
 by_cases c3003 : x10_3 < (l0_10.length : Int)
 rw [if_pos c3003] at H
 have c3003b0 : decide (x10_3 < (l0_10.length : Int)) = true := decide_eq_true c3003
 clear c3003
 replace H := Option.bind_eq_some_iff.mp H
 obtain ⟨⟨t229, t230, t231, t232, t233, t234, t235, t236, t237, t238, t241⟩, A30040, H⟩ := H
 replace H : (if (wrap64 (x10_3 + (wrap64 ((wrap64 (Int.tdiv (wrap64 ((wrap64 (a1 - 20)) - (l0_9.length : Int))) 8)) * 8)))) < (l0_10.length : Int) then (if 0 ≤ x10_3 then (if x10_3 ≤ (wrap64 (x10_3 + (wrap64 ((wrap64 (Int.tdiv (wrap64 ((wrap64 (a1 - 20)) - (l0_9.length : Int))) 8)) * 8)))) then (if (wrap64 (x10_3 + (wrap64 ((wrap64 (Int.tdiv (wrap64 ((wrap64 (a1 - 20)) - (l0_9.length : Int))) 8)) * 8)))) ≤ (l0_10.length : Int) then ((spec_l01Copy.f k3 ((l0_10.take ((wrap64 (x10_3 + (wrap64 ((wrap64 (Int.tdiv (wrap64 ((wrap64 (a1 - 20)) - (l0_9.length : Int))) 8)) * 8)))) : Int).toNat).drop (x10_3 : Int).toNat)).bind fun t246 => (if x9_3.length < 1256584717458 then (spec_Fragment.l0 k3 (wrap64 ((wrap64 (Int.tdiv (wrap64 ((wrap64 (a1 - 20)) - (l0_9.length : Int))) 8)) * 8)) (x9_3 ++ [(⟨t229, t230, t231, true, wrap64 (a0_4 + x10_3), t234, t235, t236, t237, t238, t246⟩ : S29)]) (wrap64 (x10_3 + (wrap64 ((wrap64 (Int.tdiv (wrap64 ((wrap64 (a1 - 20)) - (l0_9.length : Int))) 8)) * 8)))) a0_0 a0_1 a0_2 a0_3 a0_4 a0_5 a0_6 a0_7 a0_8 l0_9 l0_10) else (none))) else (none)) else (none)) else (none)) else (if 0 ≤ x10_3 then (if x10_3 ≤ (l0_10.length : Int) then ((spec_l01Copy.f k3 (l0_10.drop (x10_3 : Int).toNat)).bind fun t253 => (if x9_3.length < 1256584717458 then (spec_Fragment.l0 k3 (wrap64 ((wrap64 (Int.tdiv (wrap64 ((wrap64 (a1 - 20)) - (l0_9.length : Int))) 8)) * 8)) (x9_3 ++ [(⟨t229, t230, t231, t232, wrap64 (a0_4 + x10_3), t234, t235, t236, t237, t238, t253⟩ : S29)]) (wrap64 (x10_3 + (wrap64 ((wrap64 (Int.tdiv (wrap64 ((wrap64 (a1 - 20)) - (l0_9.length : Int))) 8)) * 8)))) a0_0 a0_1 a0_2 a0_3 a0_4 a0_5 a0_6 a0_7 a0_8 l0_9 l0_10) else (none))) else (none)) else (none))) = some (r1, r2) := H
 have A3004 := Aside0.mk A30040
 clear A30040
 by_cases c3005 : (wrap64 (x10_3 + (wrap64 ((wrap64 (Int.tdiv (wrap64 ((wrap64 (a1 - 20)) - (l0_9.length : Int))) 8)) * 8)))) < (l0_10.length : Int)
 rw [if_pos c3005] at H
 have c3005b0 : decide ((wrap64 (x10_3 + (wrap64 ((wrap64 (Int.tdiv (wrap64 ((wrap64 (a1 - 20)) - (l0_9.length : Int))) 8)) * 8)))) < (l0_10.length : Int)) = true := decide_eq_true c3005
 clear c3005
 by_cases c3006 : 0 ≤ x10_3
 rw [if_pos c3006] at H
 have c3006b0 := eq_true c3006
 have c3006b1 : decide (0 ≤ x10_3) = true := decide_eq_true c3006
 clear c3006
 by_cases c3007 : x10_3 ≤ (wrap64 (x10_3 + (wrap64 ((wrap64 (Int.tdiv (wrap64 ((wrap64 (a1 - 20)) - (l0_9.length : Int))) 8)) * 8))))
 rw [if_pos c3007] at H
 have c3007b0 := eq_true c3007
 have c3007b1 : decide (x10_3 ≤ (wrap64 (x10_3 + (wrap64 ((wrap64 (Int.tdiv (wrap64 ((wrap64 (a1 - 20)) - (l0_9.length : Int))) 8)) * 8))))) = true := decide_eq_true c3007
 by_cases c3008 : (wrap64 (x10_3 + (wrap64 ((wrap64 (Int.tdiv (wrap64 ((wrap64 (a1 - 20)) - (l0_9.length : Int))) 8)) * 8)))) ≤ (l0_10.length : Int)
 rw [if_pos c3008] at H
 have c3008b0 := eq_true c3008
 have c3008b1 : decide ((wrap64 (x10_3 + (wrap64 ((wrap64 (Int.tdiv (wrap64 ((wrap64 (a1 - 20)) - (l0_9.length : Int))) 8)) * 8)))) ≤ (l0_10.length : Int)) = true := decide_eq_true c3008
 replace H := Option.bind_eq_some_iff.mp H
 obtain ⟨t246, A30090, H⟩ := H
 replace H : (if x9_3.length < 1256584717458 then (spec_Fragment.l0 k3 (wrap64 ((wrap64 (Int.tdiv (wrap64 ((wrap64 (a1 - 20)) - (l0_9.length : Int))) 8)) * 8)) (x9_3 ++ [(⟨t229, t230, t231, true, wrap64 (a0_4 + x10_3), t234, t235, t236, t237, t238, t246⟩ : S29)]) (wrap64 (x10_3 + (wrap64 ((wrap64 (Int.tdiv (wrap64 ((wrap64 (a1 - 20)) - (l0_9.length : Int))) 8)) * 8)))) a0_0 a0_1 a0_2 a0_3 a0_4 a0_5 a0_6 a0_7 a0_8 l0_9 l0_10) else (none)) = some (r1, r2) := H
 have A3009 := Aside0.mk A30090
 clear A30090
 by_cases c3010 : x9_3.length < 1256584717458
 rw [if_pos c3010] at H
 have LMc3010 := Aside0.mk c3010
 clear c3010
 obtain ⟨y249, hy249⟩ : ∃ y_ : List (S29), y_ = (x9_3 ++ [(⟨t229, t230, t231, true, wrap64 (a0_4 + x10_3), t234, t235, t236, t237, t238, t246⟩ : S29)]) := ⟨_, rfl⟩
 replace H : (spec_Fragment.l0 k3 (wrap64 ((wrap64 (Int.tdiv (wrap64 ((wrap64 (a1 - 20)) - (l0_9.length : Int))) 8)) * 8)) y249 (wrap64 (x10_3 + (wrap64 ((wrap64 (Int.tdiv (wrap64 ((wrap64 (a1 - 20)) - (l0_9.length : Int))) 8)) * 8)))) a0_0 a0_1 a0_2 a0_3 a0_4 a0_5 a0_6 a0_7 a0_8 l0_9 l0_10) = some (r1, r2) := by first | (rw [hy249]; with_reducible exact H) | (have H2_ := (Option.bind_some _ _).symm.trans H; rw [hy249]; with_reducible exact H2_) | (have H2_ := (Option.bind_some _ _).symm.trans H; with_reducible exact H2_) | with_reducible exact H | (rw [hy249]; exact H) | exact H
 have Ny249 := Aside0.mk hy249
 clear hy249
 have H' := Aside0.mk H
 clear H
 rotate_left
 rw [if_neg c3010] at H
 exact absurd H (by simp)
 rw [if_neg c3008] at H
 exact absurd H (by simp)
 rw [if_neg c3007] at H
 exact absurd H (by simp)
 rw [if_neg c3006] at H
 exact absurd H (by simp)
 rw [if_neg c3005] at H
 have c3005b0 : decide ((wrap64 (x10_3 + (wrap64 ((wrap64 (Int.tdiv (wrap64 ((wrap64 (a1 - 20)) - (l0_9.length : Int))) 8)) * 8)))) < (l0_10.length : Int)) = false := decide_eq_false c3005
 clear c3005
 by_cases c3011 : 0 ≤ x10_3
 rw [if_pos c3011] at H
 have c3011b0 := eq_true c3011
 have c3011b1 : decide (0 ≤ x10_3) = true := decide_eq_true c3011
 clear c3011
 by_cases c3012 : x10_3 ≤ (l0_10.length : Int)
 rw [if_pos c3012] at H
 have c3012b0 := eq_true c3012
 have c3012b1 : decide (x10_3 ≤ (l0_10.length : Int)) = true := decide_eq_true c3012
 clear c3012
 replace H := Option.bind_eq_some_iff.mp H
 obtain ⟨t253, A30130, H⟩ := H
 replace H : (if x9_3.length < 1256584717458 then (spec_Fragment.l0 k3 (wrap64 ((wrap64 (Int.tdiv (wrap64 ((wrap64 (a1 - 20)) - (l0_9.length : Int))) 8)) * 8)) (x9_3 ++ [(⟨t229, t230, t231, t232, wrap64 (a0_4 + x10_3), t234, t235, t236, t237, t238, t253⟩ : S29)]) (wrap64 (x10_3 + (wrap64 ((wrap64 (Int.tdiv (wrap64 ((wrap64 (a1 - 20)) - (l0_9.length : Int))) 8)) * 8)))) a0_0 a0_1 a0_2 a0_3 a0_4 a0_5 a0_6 a0_7 a0_8 l0_9 l0_10) else (none)) = some (r1, r2) := H
 have A3013 := Aside0.mk A30130
 clear A30130
 by_cases c3014 : x9_3.length < 1256584717458
 rw [if_pos c3014] at H
 have LMc3014 := Aside0.mk c3014
 clear c3014
 obtain ⟨y256, hy256⟩ : ∃ y_ : List (S29), y_ = (x9_3 ++ [(⟨t229, t230, t231, t232, wrap64 (a0_4 + x10_3), t234, t235, t236, t237, t238, t253⟩ : S29)]) := ⟨_, rfl⟩
 replace H : (spec_Fragment.l0 k3 (wrap64 ((wrap64 (Int.tdiv (wrap64 ((wrap64 (a1 - 20)) - (l0_9.length : Int))) 8)) * 8)) y256 (wrap64 (x10_3 + (wrap64 ((wrap64 (Int.tdiv (wrap64 ((wrap64 (a1 - 20)) - (l0_9.length : Int))) 8)) * 8)))) a0_0 a0_1 a0_2 a0_3 a0_4 a0_5 a0_6 a0_7 a0_8 l0_9 l0_10) = some (r1, r2) := by first | (rw [hy256]; with_reducible exact H) | (have H2_ := (Option.bind_some _ _).symm.trans H; rw [hy256]; with_reducible exact H2_) | (have H2_ := (Option.bind_some _ _).symm.trans H; with_reducible exact H2_) | with_reducible exact H | (rw [hy256]; exact H) | exact H
 have Ny256 := Aside0.mk hy256
 clear hy256
 have H' := Aside0.mk H
 clear H
 rotate_left
 rw [if_neg c3014] at H
 exact absurd H (by simp)
 rw [if_neg c3012] at H
 exact absurd H (by simp)
 rw [if_neg c3011] at H
 exact absurd H (by simp)
 rw [if_neg c3003] at H
 have c3003b0 : decide (x10_3 < (l0_10.length : Int)) = false := decide_eq_false c3003
 clear c3003
 simp only [Option.some.injEq, Prod.mk.injEq] at H
 obtain ⟨rfl, rfl⟩ := H
 rotate_left
 all_goals (
 obtain ⟨⟨hcz4001_0, hcz4001_1, hcz4001_2, hcz4001_3, hcz4001_4, hcz4001_5, hcz4001_6, hcz4001_7, hcz4001_8, hcz4001_9, hcz4001_10⟩, hfz4001_0, hfz4001_1, hfz4001_2, hfz4001_3, hfz4001_4, hfz4001_5, hfz4001_6, hfz4001_7, hfz4001_8, hfz4001_9, hfz4001_10⟩ := cells11 BK202.out
 )
 {
 go_wp2_with (first | ((with_reducible refine gate_callee (f := 16) rfl ?_); refine goesL_ (some 58) rfl rfl Try.func16 (by kernel_rfl) rfl #[.agg #[.int .i64 a0_0, .int .i64 a0_1, .bool a0_2, .bool a0_3, .int .i64 a0_4, .int .i64 a0_5, .int .i64 a0_6, .int .i64 a0_7, .int .i64 a0_8, .slice A0_9 l0_9.length c0_9, .slice A0_10 l0_10.length c0_10]] rfl wT ?_; (with_reducible refine (spec_l06CopyPacket.calls k3 a0_0 a0_1 a0_2 a0_3 a0_4 a0_5 a0_6 a0_7 a0_8 _ _ l0_9 _ _ l0_10 t229 t230 t231 t232 t233 t234 t235 t236 t237 t238 t241 _ ?side1 ?side2 ?side3 ?side4 A3004.out).mono ?_); (case side1 => exact Kd.C_below HR0_9.out wB); (case side2 => exact HC0_9.out); (case side3 => exact Kd.C_below HR0_10.out wB); (case side4 => exact HC0_10.out); rintro e w4002 ⟨v239, v242, rfl, ho0, ho1, hb⟩; refine ⟨_, rfl, ?_⟩; have n0_ := Aside0.mk (Kd.N_mono (Kd.N_told (Kd.N_told (Kd.N_old (by (with_reducible repeat (first | apply Kd.N_alloc | apply Kd.N_drewN | apply Kd.N_drew)); exact HO_9.out) hb) (Kd.R_base ho0)) (Kd.R_base ho1)) (fun _ h_ => h_.1)); have n1_ := Aside0.mk (Kd.R_lower (Kd.R_newM (M := fun k_ => (w.heap.size ≤ k_)) ho0 (below_size wB) (fun k_ h_ => h_)) (below_size wB)); have n2_ := Aside0.mk (Kd.R_lower (Kd.R_newM (M := fun k_ => (w.heap.size ≤ k_)) ho1 (below_size wB) (fun k_ h_ => h_)) (below_size wB)); have n3_ := Aside0.mk (blk_below (Bh BK202) hb); have n4_ := Aside0.mk (below_step wB hb); clear HO_9; clear BK202; clear HB; have HO_9 := n0_; have HO240 := n1_; have HO243 := n2_; have BK202 := n3_; have HB := n4_; clear n0_ n1_ n2_ n3_ n4_; (try clear hb); (try clear hb2); (try clear hk); (try clear hi); (try clear ho0); (try clear ho1)) | ((with_reducible refine gate_dst (N := 11) rfl ?_); refine box_event ?hg (N := 11) ?hd (cs := #[.int .i64 0, .int .i64 0, .bool false, .bool false, .int .i64 0, .int .i64 0, .int .i64 0, .int .i64 0, .int .i64 0, .slice none 0 0, .slice none 0 0]) (t := 29) ?hr ?_; (case hd => rfl); (case hg => rfl); (case hr => first | (go_simp; done) | (go_simp; rfl)); intro gb244 hg w4003 hbox hb; have n0_ := Aside0.mk (Kd.N_below (Kd.N_elderB (by (with_reducible repeat (first | apply Kd.N_alloc | apply Kd.N_drewN | apply Kd.N_drew)); exact HO_9.out) gb244 (Nat.le_of_eq hg.symm)) hb); have n1_ := Aside0.mk (Kd.R_below (Rh HO240) hb); have n2_ := Aside0.mk (Kd.R_below (Rh HO243) hb); have n3_ := Aside0.mk (blk_below (Bh BK202) hb); have n4_ := Aside0.mk (below_step wB hb); have n5_ := Aside0.mk (hbox); have n6_ := Aside0.mk ((by rw [hg]; exact (below_size wB) : w.heap.size ≤ gb244)); have n7_ := Aside0.mk ((by rw [hg]; exact (below_size wB) : w.heap.size ≤ gb244)); have n8_ := Aside0.mk ((by rw [hg]; exact Nat.ne_of_lt (blk_lt (Bh BK202)) : gb202 ≠ gb244)); have n9_ := Aside0.mk ((by rw [hg]; exact Nat.ne_of_gt (blk_lt (Bh BK202)) : gb244 ≠ gb202)); clear HO_9; clear HO240; clear HO243; clear BK202; clear HB; have HO_9 := n0_; have HO240 := n1_; have HO243 := n2_; have BK202 := n3_; have HB := n4_; have BK244 := n5_; have GW244 := n6_; have GE244 := n7_; have NB202_244 := n8_; have NB244_202 := n9_; clear n0_ n1_ n2_ n3_ n4_ n5_ n6_ n7_ n8_ n9_; clear hb hbox hg; have hnb4004 := NB244_202.out; have hnc4004 := NB202_244.out; obtain ⟨⟨hcz4005_0, hcz4005_1, hcz4005_2, hcz4005_3, hcz4005_4, hcz4005_5, hcz4005_6, hcz4005_7, hcz4005_8, hcz4005_9, hcz4005_10⟩, hfz4005_0, hfz4005_1, hfz4005_2, hfz4005_3, hfz4005_4, hfz4005_5, hfz4005_6, hfz4005_7, hfz4005_8, hfz4005_9, hfz4005_10⟩ := cells11 BK244.out; obtain ⟨Ao4006, co4006, eo4006⟩ := Kd.R_slice HO240.out; subst eo4006; obtain ⟨Ao4007, co4007, eo4007⟩ := Kd.R_slice HO243.out; subst eo4007) | ((with_reducible refine gate_store (t := 29) (p := 11) rfl ?_); refine store_event (t := 29) (p := 11) (v := ?_) (w1 := (((((((((((w4003.setCell ⟨gb244, 0, none⟩ (.int .i64 t229)).setCell ⟨gb244, 1, none⟩ (.int .i64 t230)).setCell ⟨gb244, 2, none⟩ (.bool t231)).setCell ⟨gb244, 3, none⟩ (.bool t232)).setCell ⟨gb244, 4, none⟩ (.int .i64 t233)).setCell ⟨gb244, 5, none⟩ (.int .i64 t234)).setCell ⟨gb244, 6, none⟩ (.int .i64 t235)).setCell ⟨gb244, 7, none⟩ (.int .i64 t236)).setCell ⟨gb244, 8, none⟩ (.int .i64 t237)).setCell ⟨gb244, 9, none⟩ (.slice Ao4006 t238.length co4006)).setCell ⟨gb244, 10, none⟩ (.slice Ao4007 t241.length co4007))) ?hg ?ho ?hn ?hr ?_; (case ho => rfl); (case hg => rfl); (case hn => rfl); (case hr => first | (go_simp; done) | (go_simp; rfl)); intro w4008 hw; have n0_ : Aside0 (Kd.N k29 29 w4008 w.heap.size (fun k_ => (w.heap.size ≤ k_) ∧ some k_ ≠ (.slice Ao4006 t238.length co4006 : Value).ownBlock ∧ some k_ ≠ (.slice Ao4007 t241.length co4007 : Value).ownBlock ∧ k_ ≠ gb202 ∧ k_ ≠ gb244) u9 x9_3) := ⟨(by rw [hw]; exact (by (with_reducible repeat (first | apply Kd.N_alloc | apply Kd.N_drewN | apply Kd.N_drew)); exact Kd.N_mono (Kd.N_far (p := ⟨gb244, 10, none⟩) (Kd.N_far (p := ⟨gb244, 9, none⟩) (Kd.N_far (p := ⟨gb244, 8, none⟩) (Kd.N_far (p := ⟨gb244, 7, none⟩) (Kd.N_far (p := ⟨gb244, 6, none⟩) (Kd.N_far (p := ⟨gb244, 5, none⟩) (Kd.N_far (p := ⟨gb244, 4, none⟩) (Kd.N_far (p := ⟨gb244, 3, none⟩) (Kd.N_far (p := ⟨gb244, 2, none⟩) (Kd.N_far (p := ⟨gb244, 1, none⟩) (Kd.N_far (p := ⟨gb244, 0, none⟩) (Kd.N_mono HO_9.out (fun k_ hk => (⟨hk, hk.2⟩ : _ ∧ k_ ≠ gb244))) (fun _ hk => hk.2) (.int .i64 t229)) (fun _ hk => hk.2) (.int .i64 t230)) (fun _ hk => hk.2) (.bool t231)) (fun _ hk => hk.2) (.bool t232)) (fun _ hk => hk.2) (.int .i64 t233)) (fun _ hk => hk.2) (.int .i64 t234)) (fun _ hk => hk.2) (.int .i64 t235)) (fun _ hk => hk.2) (.int .i64 t236)) (fun _ hk => hk.2) (.int .i64 t237)) (fun _ hk => hk.2) (.slice Ao4006 t238.length co4006)) (fun _ hk => hk.2) (.slice Ao4007 t241.length co4007)) (fun _ hk => ⟨hk.1.1.1.1.1, ⟨hk.1.1.1.2, ⟨hk.1.1.2, ⟨hk.1.1.1.1.2, hk.1.2⟩⟩⟩⟩)))⟩; have n1_ : Aside0 (Kd.R (Kd.int .u8) 5 w4008 w.heap.size (fun k_ => (w.heap.size ≤ k_) ∧ some k_ ≠ (.slice Ao4007 t241.length co4007 : Value).ownBlock) (.slice Ao4006 t238.length co4006) t238) := ⟨(by rw [hw]; exact (by (with_reducible repeat (first | apply Kd.R_alloc | apply Kd.R_drewN | apply Kd.R_drew)); exact Kd.R_mono (Kd.R_far (p := ⟨gb244, 10, none⟩) (Kd.R_far (p := ⟨gb244, 9, none⟩) (Kd.R_far (p := ⟨gb244, 8, none⟩) (Kd.R_far (p := ⟨gb244, 7, none⟩) (Kd.R_far (p := ⟨gb244, 6, none⟩) (Kd.R_far (p := ⟨gb244, 5, none⟩) (Kd.R_far (p := ⟨gb244, 4, none⟩) (Kd.R_far (p := ⟨gb244, 3, none⟩) (Kd.R_far (p := ⟨gb244, 2, none⟩) (Kd.R_far (p := ⟨gb244, 1, none⟩) (Kd.R_far (p := ⟨gb244, 0, none⟩) (Kd.R_types HO240.out BK244.out (by decide)) (fun _ hk => hk.2) (.int .i64 t229)) (fun _ hk => hk.2) (.int .i64 t230)) (fun _ hk => hk.2) (.bool t231)) (fun _ hk => hk.2) (.bool t232)) (fun _ hk => hk.2) (.int .i64 t233)) (fun _ hk => hk.2) (.int .i64 t234)) (fun _ hk => hk.2) (.int .i64 t235)) (fun _ hk => hk.2) (.int .i64 t236)) (fun _ hk => hk.2) (.int .i64 t237)) (fun _ hk => hk.2) (.slice Ao4006 t238.length co4006)) (fun _ hk => hk.2) (.slice Ao4007 t241.length co4007)) (fun _ hk => ⟨hk.1.1, hk.1.2⟩)))⟩; have n2_ : Aside0 (Kd.R (Kd.int .u8) 5 w4008 w.heap.size (fun k_ => (w.heap.size ≤ k_) ∧ some k_ ≠ (.slice Ao4006 t238.length co4006 : Value).ownBlock) (.slice Ao4007 t241.length co4007) t241) := ⟨(by rw [hw]; exact (by (with_reducible repeat (first | apply Kd.R_alloc | apply Kd.R_drewN | apply Kd.R_drew)); exact Kd.R_mono (Kd.R_far (p := ⟨gb244, 10, none⟩) (Kd.R_far (p := ⟨gb244, 9, none⟩) (Kd.R_far (p := ⟨gb244, 8, none⟩) (Kd.R_far (p := ⟨gb244, 7, none⟩) (Kd.R_far (p := ⟨gb244, 6, none⟩) (Kd.R_far (p := ⟨gb244, 5, none⟩) (Kd.R_far (p := ⟨gb244, 4, none⟩) (Kd.R_far (p := ⟨gb244, 3, none⟩) (Kd.R_far (p := ⟨gb244, 2, none⟩) (Kd.R_far (p := ⟨gb244, 1, none⟩) (Kd.R_far (p := ⟨gb244, 0, none⟩) (Kd.R_types HO243.out BK244.out (by decide)) (fun _ hk => hk.2) (.int .i64 t229)) (fun _ hk => hk.2) (.int .i64 t230)) (fun _ hk => hk.2) (.bool t231)) (fun _ hk => hk.2) (.bool t232)) (fun _ hk => hk.2) (.int .i64 t233)) (fun _ hk => hk.2) (.int .i64 t234)) (fun _ hk => hk.2) (.int .i64 t235)) (fun _ hk => hk.2) (.int .i64 t236)) (fun _ hk => hk.2) (.int .i64 t237)) (fun _ hk => hk.2) (.slice Ao4006 t238.length co4006)) (fun _ hk => hk.2) (.slice Ao4007 t241.length co4007)) (fun _ hk => ⟨hk.1.1, hk.1.2⟩)))⟩; have n3_ : Aside0 (w4008.heap[gb202]? = some (.cells #[.int .i64 a0_0, .int .i64 a0_1, .bool a0_2, .bool a0_3, .int .i64 a0_4, .int .i64 a0_5, .int .i64 a0_6, .int .i64 a0_7, .int .i64 a0_8, .slice A0_9 l0_9.length c0_9, .slice A0_10 l0_10.length c0_10] 29 (0, 0))) := ⟨(by rw [hw]; exact (by (with_reducible repeat (first | refine blk_drewN ?_ _ | refine blk_drew ?_ | refine blk_alloc ?_ _)); refine blk_far ?_ NB202_244.out _; (with_reducible repeat (first | refine blk_drewN ?_ _ | refine blk_drew ?_ | refine blk_alloc ?_ _)); refine blk_far ?_ NB202_244.out _; (with_reducible repeat (first | refine blk_drewN ?_ _ | refine blk_drew ?_ | refine blk_alloc ?_ _)); refine blk_far ?_ NB202_244.out _; (with_reducible repeat (first | refine blk_drewN ?_ _ | refine blk_drew ?_ | refine blk_alloc ?_ _)); refine blk_far ?_ NB202_244.out _; (with_reducible repeat (first | refine blk_drewN ?_ _ | refine blk_drew ?_ | refine blk_alloc ?_ _)); refine blk_far ?_ NB202_244.out _; (with_reducible repeat (first | refine blk_drewN ?_ _ | refine blk_drew ?_ | refine blk_alloc ?_ _)); refine blk_far ?_ NB202_244.out _; (with_reducible repeat (first | refine blk_drewN ?_ _ | refine blk_drew ?_ | refine blk_alloc ?_ _)); refine blk_far ?_ NB202_244.out _; (with_reducible repeat (first | refine blk_drewN ?_ _ | refine blk_drew ?_ | refine blk_alloc ?_ _)); refine blk_far ?_ NB202_244.out _; (with_reducible repeat (first | refine blk_drewN ?_ _ | refine blk_drew ?_ | refine blk_alloc ?_ _)); refine blk_far ?_ NB202_244.out _; (with_reducible repeat (first | refine blk_drewN ?_ _ | refine blk_drew ?_ | refine blk_alloc ?_ _)); refine blk_far ?_ NB202_244.out _; (with_reducible repeat (first | refine blk_drewN ?_ _ | refine blk_drew ?_ | refine blk_alloc ?_ _)); refine blk_far ?_ NB202_244.out _; (with_reducible repeat (first | refine blk_drewN ?_ _ | refine blk_drew ?_ | refine blk_alloc ?_ _)); exact BK202.out))⟩; have n4_ : Aside0 (w4008.heap[gb244]? = some (.cells #[.int .i64 t229, .int .i64 t230, .bool t231, .bool t232, .int .i64 t233, .int .i64 t234, .int .i64 t235, .int .i64 t236, .int .i64 t237, .slice Ao4006 t238.length co4006, .slice Ao4007 t241.length co4007] 29 (0, 0))) := ⟨(by rw [hw]; exact (by (with_reducible repeat (first | refine blk_drewN ?_ _ | refine blk_drew ?_ | refine blk_alloc ?_ _)); refine blk_put (cs := #[.int .i64 t229, .int .i64 t230, .bool t231, .bool t232, .int .i64 t233, .int .i64 t234, .int .i64 t235, .int .i64 t236, .int .i64 t237, .slice Ao4006 t238.length co4006, .slice none 0 0]) ?_ 10 _ rfl; (with_reducible repeat (first | refine blk_drewN ?_ _ | refine blk_drew ?_ | refine blk_alloc ?_ _)); refine blk_put (cs := #[.int .i64 t229, .int .i64 t230, .bool t231, .bool t232, .int .i64 t233, .int .i64 t234, .int .i64 t235, .int .i64 t236, .int .i64 t237, .slice none 0 0, .slice none 0 0]) ?_ 9 _ rfl; (with_reducible repeat (first | refine blk_drewN ?_ _ | refine blk_drew ?_ | refine blk_alloc ?_ _)); refine blk_put (cs := #[.int .i64 t229, .int .i64 t230, .bool t231, .bool t232, .int .i64 t233, .int .i64 t234, .int .i64 t235, .int .i64 t236, .int .i64 0, .slice none 0 0, .slice none 0 0]) ?_ 8 _ rfl; (with_reducible repeat (first | refine blk_drewN ?_ _ | refine blk_drew ?_ | refine blk_alloc ?_ _)); refine blk_put (cs := #[.int .i64 t229, .int .i64 t230, .bool t231, .bool t232, .int .i64 t233, .int .i64 t234, .int .i64 t235, .int .i64 0, .int .i64 0, .slice none 0 0, .slice none 0 0]) ?_ 7 _ rfl; (with_reducible repeat (first | refine blk_drewN ?_ _ | refine blk_drew ?_ | refine blk_alloc ?_ _)); refine blk_put (cs := #[.int .i64 t229, .int .i64 t230, .bool t231, .bool t232, .int .i64 t233, .int .i64 t234, .int .i64 0, .int .i64 0, .int .i64 0, .slice none 0 0, .slice none 0 0]) ?_ 6 _ rfl; (with_reducible repeat (first | refine blk_drewN ?_ _ | refine blk_drew ?_ | refine blk_alloc ?_ _)); refine blk_put (cs := #[.int .i64 t229, .int .i64 t230, .bool t231, .bool t232, .int .i64 t233, .int .i64 0, .int .i64 0, .int .i64 0, .int .i64 0, .slice none 0 0, .slice none 0 0]) ?_ 5 _ rfl; (with_reducible repeat (first | refine blk_drewN ?_ _ | refine blk_drew ?_ | refine blk_alloc ?_ _)); refine blk_put (cs := #[.int .i64 t229, .int .i64 t230, .bool t231, .bool t232, .int .i64 0, .int .i64 0, .int .i64 0, .int .i64 0, .int .i64 0, .slice none 0 0, .slice none 0 0]) ?_ 4 _ rfl; (with_reducible repeat (first | refine blk_drewN ?_ _ | refine blk_drew ?_ | refine blk_alloc ?_ _)); refine blk_put (cs := #[.int .i64 t229, .int .i64 t230, .bool t231, .bool false, .int .i64 0, .int .i64 0, .int .i64 0, .int .i64 0, .int .i64 0, .slice none 0 0, .slice none 0 0]) ?_ 3 _ rfl; (with_reducible repeat (first | refine blk_drewN ?_ _ | refine blk_drew ?_ | refine blk_alloc ?_ _)); refine blk_put (cs := #[.int .i64 t229, .int .i64 t230, .bool false, .bool false, .int .i64 0, .int .i64 0, .int .i64 0, .int .i64 0, .int .i64 0, .slice none 0 0, .slice none 0 0]) ?_ 2 _ rfl; (with_reducible repeat (first | refine blk_drewN ?_ _ | refine blk_drew ?_ | refine blk_alloc ?_ _)); refine blk_put (cs := #[.int .i64 t229, .int .i64 0, .bool false, .bool false, .int .i64 0, .int .i64 0, .int .i64 0, .int .i64 0, .int .i64 0, .slice none 0 0, .slice none 0 0]) ?_ 1 _ rfl; (with_reducible repeat (first | refine blk_drewN ?_ _ | refine blk_drew ?_ | refine blk_alloc ?_ _)); refine blk_put (cs := #[.int .i64 0, .int .i64 0, .bool false, .bool false, .int .i64 0, .int .i64 0, .int .i64 0, .int .i64 0, .int .i64 0, .slice none 0 0, .slice none 0 0]) ?_ 0 _ rfl; (with_reducible repeat (first | refine blk_drewN ?_ _ | refine blk_drew ?_ | refine blk_alloc ?_ _)); exact BK244.out))⟩; have n5_ : Aside0 (Below w.heap.size w w4008) := ⟨(by rw [hw]; exact wB)⟩; clear hw; clear HO_9; clear HO240; clear HO243; clear BK202; clear BK244; clear HB; have HO_9 := n0_; have HO240 := n1_; have HO243 := n2_; have BK202 := n3_; have BK244 := n4_; have HB := n5_; clear n0_ n1_ n2_ n3_ n4_ n5_; obtain ⟨⟨hcz4009_0, hcz4009_1, hcz4009_2, hcz4009_3, hcz4009_4, hcz4009_5, hcz4009_6, hcz4009_7, hcz4009_8, hcz4009_9, hcz4009_10⟩, hfz4009_0, hfz4009_1, hfz4009_2, hfz4009_3, hfz4009_4, hfz4009_5, hfz4009_6, hfz4009_7, hfz4009_8, hfz4009_9, hfz4009_10⟩ := cells11 BK202.out; obtain ⟨⟨hcz4010_0, hcz4010_1, hcz4010_2, hcz4010_3, hcz4010_4, hcz4010_5, hcz4010_6, hcz4010_7, hcz4010_8, hcz4010_9, hcz4010_10⟩, hfz4010_0, hfz4010_1, hfz4010_2, hfz4010_3, hfz4010_4, hfz4010_5, hfz4010_6, hfz4010_7, hfz4010_8, hfz4010_9, hfz4010_10⟩ := cells11 BK244.out) | ((with_reducible refine gate_store (t := 4) (p := 71) rfl ?_); refine store_event (t := 4) (p := 71) (v := ?_) (w1 := ((w4008.setCell ⟨gb244, 4, none⟩ (.int .i64 (wrap64 (a0_4 + x10_3)))).setCell ⟨gb244, 3, none⟩ (.bool true))) ?hg ?ho ?hn ?hr ?_; (case ho => rfl); (case hg => rfl); (case hn => rfl); (case hr => first | (go_simp; done) | (go_simp; rfl)); intro w4011 hw; have n0_ : Aside0 (Kd.N k29 29 w4011 w.heap.size (fun k_ => (w.heap.size ≤ k_) ∧ some k_ ≠ (.slice Ao4006 t238.length co4006 : Value).ownBlock ∧ some k_ ≠ (.slice Ao4007 t241.length co4007 : Value).ownBlock ∧ k_ ≠ gb202 ∧ k_ ≠ gb244) u9 x9_3) := ⟨(by rw [hw]; exact (by (with_reducible repeat (first | apply Kd.N_alloc | apply Kd.N_drewN | apply Kd.N_drew)); exact Kd.N_mono (Kd.N_far (p := ⟨gb244, 3, none⟩) (Kd.N_far (p := ⟨gb244, 4, none⟩) (Kd.N_mono HO_9.out (fun k_ hk => (⟨hk, hk.2.2.2.2⟩ : _ ∧ k_ ≠ gb244))) (fun _ hk => hk.2) (.int .i64 (wrap64 (a0_4 + x10_3)))) (fun _ hk => hk.2) (.bool true)) (fun _ hk => ⟨hk.1.1, ⟨hk.1.2.1, ⟨hk.1.2.2.1, ⟨hk.1.2.2.2.1, hk.1.2.2.2.2⟩⟩⟩⟩)))⟩; have n1_ : Aside0 (Kd.R (Kd.int .u8) 5 w4011 w.heap.size (fun k_ => (w.heap.size ≤ k_) ∧ some k_ ≠ (.slice Ao4007 t241.length co4007 : Value).ownBlock) (.slice Ao4006 t238.length co4006) t238) := ⟨(by rw [hw]; exact (by (with_reducible repeat (first | apply Kd.R_alloc | apply Kd.R_drewN | apply Kd.R_drew)); exact Kd.R_mono (Kd.R_far (p := ⟨gb244, 3, none⟩) (Kd.R_far (p := ⟨gb244, 4, none⟩) (Kd.R_types HO240.out BK244.out (by decide)) (fun _ hk => hk.2) (.int .i64 (wrap64 (a0_4 + x10_3)))) (fun _ hk => hk.2) (.bool true)) (fun _ hk => ⟨hk.1.1, hk.1.2⟩)))⟩; have n2_ : Aside0 (Kd.R (Kd.int .u8) 5 w4011 w.heap.size (fun k_ => (w.heap.size ≤ k_) ∧ some k_ ≠ (.slice Ao4006 t238.length co4006 : Value).ownBlock) (.slice Ao4007 t241.length co4007) t241) := ⟨(by rw [hw]; exact (by (with_reducible repeat (first | apply Kd.R_alloc | apply Kd.R_drewN | apply Kd.R_drew)); exact Kd.R_mono (Kd.R_far (p := ⟨gb244, 3, none⟩) (Kd.R_far (p := ⟨gb244, 4, none⟩) (Kd.R_types HO243.out BK244.out (by decide)) (fun _ hk => hk.2) (.int .i64 (wrap64 (a0_4 + x10_3)))) (fun _ hk => hk.2) (.bool true)) (fun _ hk => ⟨hk.1.1, hk.1.2⟩)))⟩; have n3_ : Aside0 (w4011.heap[gb202]? = some (.cells #[.int .i64 a0_0, .int .i64 a0_1, .bool a0_2, .bool a0_3, .int .i64 a0_4, .int .i64 a0_5, .int .i64 a0_6, .int .i64 a0_7, .int .i64 a0_8, .slice A0_9 l0_9.length c0_9, .slice A0_10 l0_10.length c0_10] 29 (0, 0))) := ⟨(by rw [hw]; exact (by (with_reducible repeat (first | refine blk_drewN ?_ _ | refine blk_drew ?_ | refine blk_alloc ?_ _)); refine blk_far ?_ NB202_244.out _; (with_reducible repeat (first | refine blk_drewN ?_ _ | refine blk_drew ?_ | refine blk_alloc ?_ _)); refine blk_far ?_ NB202_244.out _; (with_reducible repeat (first | refine blk_drewN ?_ _ | refine blk_drew ?_ | refine blk_alloc ?_ _)); exact BK202.out))⟩; have n4_ : Aside0 (w4011.heap[gb244]? = some (.cells #[.int .i64 t229, .int .i64 t230, .bool t231, .bool true, .int .i64 (wrap64 (a0_4 + x10_3)), .int .i64 t234, .int .i64 t235, .int .i64 t236, .int .i64 t237, .slice Ao4006 t238.length co4006, .slice Ao4007 t241.length co4007] 29 (0, 0))) := ⟨(by rw [hw]; exact (by (with_reducible repeat (first | refine blk_drewN ?_ _ | refine blk_drew ?_ | refine blk_alloc ?_ _)); refine blk_put (cs := #[.int .i64 t229, .int .i64 t230, .bool t231, .bool t232, .int .i64 (wrap64 (a0_4 + x10_3)), .int .i64 t234, .int .i64 t235, .int .i64 t236, .int .i64 t237, .slice Ao4006 t238.length co4006, .slice Ao4007 t241.length co4007]) ?_ 3 _ rfl; (with_reducible repeat (first | refine blk_drewN ?_ _ | refine blk_drew ?_ | refine blk_alloc ?_ _)); refine blk_put (cs := #[.int .i64 t229, .int .i64 t230, .bool t231, .bool t232, .int .i64 t233, .int .i64 t234, .int .i64 t235, .int .i64 t236, .int .i64 t237, .slice Ao4006 t238.length co4006, .slice Ao4007 t241.length co4007]) ?_ 4 _ rfl; (with_reducible repeat (first | refine blk_drewN ?_ _ | refine blk_drew ?_ | refine blk_alloc ?_ _)); exact BK244.out))⟩; have n5_ : Aside0 (Below w.heap.size w w4011) := ⟨(by rw [hw]; exact wB)⟩; clear hw; clear HO_9; clear HO240; clear HO243; clear BK202; clear BK244; clear HB; have HO_9 := n0_; have HO240 := n1_; have HO243 := n2_; have BK202 := n3_; have BK244 := n4_; have HB := n5_; clear n0_ n1_ n2_ n3_ n4_ n5_; obtain ⟨⟨hcz4012_0, hcz4012_1, hcz4012_2, hcz4012_3, hcz4012_4, hcz4012_5, hcz4012_6, hcz4012_7, hcz4012_8, hcz4012_9, hcz4012_10⟩, hfz4012_0, hfz4012_1, hfz4012_2, hfz4012_3, hfz4012_4, hfz4012_5, hfz4012_6, hfz4012_7, hfz4012_8, hfz4012_9, hfz4012_10⟩ := cells11 BK202.out; obtain ⟨i04013, hi04013, _, hsz4013, _⟩ := info_parts info5; obtain ⟨A4013, hcut4013, hA4013, hC4013⟩ := print_mid_of (P := Try.prog) (Value.int .u8) 0 22 5 .i64 .i64 Try.underlying22 hi04013 hsz4013 A0_10 c0_10 l0_10 x10_3 (wrap64 (x10_3 + (wrap64 ((wrap64 (Int.tdiv (wrap64 ((wrap64 (a1 - 20)) - (l0_9.length : Int))) 8)) * 8)))) (of_decide_eq_true (by first | (with_reducible assumption) | assumption)) (by first | omega | exact of_decide_eq_true (by first | (with_reducible assumption) | assumption)) (of_decide_eq_true (by first | (with_reducible assumption) | assumption)) HC0_10.out; have HR245 := Aside0.mk (Kd.C_of_reads (h1 := fun _ => rfl) (hA4013 _ (Kd.reads_of_C HR0_10.out))); have HC245 := Aside0.mk hC4013; clear hA4013 hC4013 hi04013 hsz4013) | ((with_reducible refine gate_callee (f := 17) rfl ?_); refine goesL_ (some 79) rfl rfl Try.func17 (by kernel_rfl) rfl #[.slice A4013 ((l0_10.take ((wrap64 (x10_3 + (wrap64 ((wrap64 (Int.tdiv (wrap64 ((wrap64 (a1 - 20)) - (l0_9.length : Int))) 8)) * 8)))) : Int).toNat).drop (x10_3 : Int).toNat).length (c0_10 - x10_3.toNat)] rfl (by (try simp only [List.map_toArray, List.map_cons, List.map_nil]); first | done | (rw [show ((l0_10.take ((wrap64 (x10_3 + (wrap64 ((wrap64 (Int.tdiv (wrap64 ((wrap64 (a1 - 20)) - (l0_9.length : Int))) 8)) * 8)))) : Int).toNat).drop (x10_3 : Int).toNat).length = ((wrap64 (x10_3 + (wrap64 ((wrap64 (Int.tdiv (wrap64 ((wrap64 (a1 - 20)) - (l0_9.length : Int))) 8)) * 8)))).toNat - x10_3.toNat) from (by rw [List.length_drop, List.length_take]; have h_ : ((wrap64 (x10_3 + (wrap64 ((wrap64 (Int.tdiv (wrap64 ((wrap64 (a1 - 20)) - (l0_9.length : Int))) 8)) * 8)))) : Int) ≤ (l0_10.length : Int) := of_decide_eq_true (by first | (with_reducible assumption) | assumption); omega)] <;> rfl) | rfl | (simp only [List.length_drop, List.length_take]; rfl)) ?_; (with_reducible refine (spec_l01Copy.calls k3 _ _ ((l0_10.take ((wrap64 (x10_3 + (wrap64 ((wrap64 (Int.tdiv (wrap64 ((wrap64 (a1 - 20)) - (l0_9.length : Int))) 8)) * 8)))) : Int).toNat).drop (x10_3 : Int).toNat) t246 _ ?side1 ?side2 A3009.out).mono ?_); (case side1 => exact Kd.C_below HR245.out wB); (case side2 => exact HC245.out); rintro e w4014 ⟨v247, rfl, ho0, hb⟩; refine ⟨_, rfl, ?_⟩; have n0_ := Aside0.mk (Kd.N_elder' (by (with_reducible repeat (first | apply Kd.N_alloc | apply Kd.N_drewN | apply Kd.N_drew)); exact HO_9.out) (Kd.R_base ho0) hb); have n1_ := Aside0.mk (Kd.R_elder' (Rh HO240) (Kd.R_base ho0) hb); have n2_ := Aside0.mk (Kd.R_elder' (Rh HO243) (Kd.R_base ho0) hb); have n3_ := Aside0.mk (Kd.R_lower (Kd.R_new' (Kd.R_new' (Kd.R_newM (M := fun k_ => (w.heap.size ≤ k_)) ho0 (below_size wB) (fun k_ h_ => h_)) (Kd.R_lt (Rh HO240))) (Kd.R_lt (Rh HO243))) (below_size wB)); have n4_ := Aside0.mk (blk_below (Bh BK202) hb); have n5_ := Aside0.mk (blk_below (Bh BK244) hb); have n6_ := Aside0.mk (below_step wB hb); clear HO_9; clear HO240; clear HO243; clear BK202; clear BK244; clear HB; have HO_9 := n0_; have HO240 := n1_; have HO243 := n2_; have HO248 := n3_; have BK202 := n4_; have BK244 := n5_; have HB := n6_; clear n0_ n1_ n2_ n3_ n4_ n5_ n6_; (try clear hb); (try clear hb2); (try clear hk); (try clear hi); (try clear ho0); obtain ⟨Ao4015, co4015, eo4015⟩ := Kd.R_slice HO248.out; subst eo4015; obtain ⟨⟨hcz4016_0, hcz4016_1, hcz4016_2, hcz4016_3, hcz4016_4, hcz4016_5, hcz4016_6, hcz4016_7, hcz4016_8, hcz4016_9, hcz4016_10⟩, hfz4016_0, hfz4016_1, hfz4016_2, hfz4016_3, hfz4016_4, hfz4016_5, hfz4016_6, hfz4016_7, hfz4016_8, hfz4016_9, hfz4016_10⟩ := cells11 BK244.out) | ((with_reducible refine gate_store (t := 22) (p := 80) rfl ?_); refine store_event (t := 22) (p := 80) (v := ?_) (w1 := (w4014.setCell ⟨gb244, 10, none⟩ (.slice Ao4015 t246.length co4015))) ?hg ?ho ?hn ?hr ?_; (case ho => rfl); (case hg => rfl); (case hn => rfl); (case hr => first | (go_simp; done) | (go_simp; rfl)); intro w4017 hw; have n0_ : Aside0 (Kd.N k29 29 w4017 w.heap.size (fun k_ => (w.heap.size ≤ k_) ∧ some k_ ≠ (.slice Ao4006 t238.length co4006 : Value).ownBlock ∧ some k_ ≠ (.slice Ao4007 t241.length co4007 : Value).ownBlock ∧ some k_ ≠ (.slice Ao4015 t246.length co4015 : Value).ownBlock ∧ k_ ≠ gb202 ∧ k_ ≠ gb244) u9 x9_3) := ⟨(by rw [hw]; exact (by (with_reducible repeat (first | apply Kd.N_alloc | apply Kd.N_drewN | apply Kd.N_drew)); exact Kd.N_mono (Kd.N_far (p := ⟨gb244, 10, none⟩) (Kd.N_mono HO_9.out (fun k_ hk => (⟨hk, hk.1.2.2.2.2⟩ : _ ∧ k_ ≠ gb244))) (fun _ hk => hk.2) (.slice Ao4015 t246.length co4015)) (fun _ hk => ⟨hk.1.1.1, ⟨hk.1.1.2.1, ⟨hk.1.1.2.2.1, ⟨hk.1.2, ⟨hk.1.1.2.2.2.1, hk.1.1.2.2.2.2⟩⟩⟩⟩⟩)))⟩; have n1_ : Aside0 (Kd.R (Kd.int .u8) 5 w4017 w.heap.size (fun k_ => (w.heap.size ≤ k_) ∧ some k_ ≠ (.slice Ao4007 t241.length co4007 : Value).ownBlock ∧ some k_ ≠ (.slice Ao4015 t246.length co4015 : Value).ownBlock) (.slice Ao4006 t238.length co4006) t238) := ⟨(by rw [hw]; exact (by (with_reducible repeat (first | apply Kd.R_alloc | apply Kd.R_drewN | apply Kd.R_drew)); exact Kd.R_mono (Kd.R_far (p := ⟨gb244, 10, none⟩) (Kd.R_types HO240.out BK244.out (by decide)) (fun _ hk => hk.2) (.slice Ao4015 t246.length co4015)) (fun _ hk => ⟨hk.1.1.1, ⟨hk.1.1.2, hk.1.2⟩⟩)))⟩; have n2_ : Aside0 (Kd.R (Kd.int .u8) 5 w4017 w.heap.size (fun k_ => (w.heap.size ≤ k_) ∧ some k_ ≠ (.slice Ao4006 t238.length co4006 : Value).ownBlock ∧ some k_ ≠ (.slice Ao4015 t246.length co4015 : Value).ownBlock) (.slice Ao4007 t241.length co4007) t241) := ⟨(by rw [hw]; exact (by (with_reducible repeat (first | apply Kd.R_alloc | apply Kd.R_drewN | apply Kd.R_drew)); exact Kd.R_mono (Kd.R_far (p := ⟨gb244, 10, none⟩) (Kd.R_types HO243.out BK244.out (by decide)) (fun _ hk => hk.2) (.slice Ao4015 t246.length co4015)) (fun _ hk => ⟨hk.1.1.1, ⟨hk.1.1.2, hk.1.2⟩⟩)))⟩; have n3_ : Aside0 (Kd.R (Kd.int .u8) 5 w4017 w.heap.size (fun k_ => (w.heap.size ≤ k_) ∧ some k_ ≠ (.slice Ao4006 t238.length co4006 : Value).ownBlock ∧ some k_ ≠ (.slice Ao4007 t241.length co4007 : Value).ownBlock) (.slice Ao4015 t246.length co4015) t246) := ⟨(by rw [hw]; exact (by (with_reducible repeat (first | apply Kd.R_alloc | apply Kd.R_drewN | apply Kd.R_drew)); exact Kd.R_mono (Kd.R_far (p := ⟨gb244, 10, none⟩) (Kd.R_types HO248.out BK244.out (by decide)) (fun _ hk => hk.2) (.slice Ao4015 t246.length co4015)) (fun _ hk => ⟨hk.1.1.1.1, ⟨hk.1.1.2, hk.1.2⟩⟩)))⟩; have n4_ : Aside0 (w4017.heap[gb202]? = some (.cells #[.int .i64 a0_0, .int .i64 a0_1, .bool a0_2, .bool a0_3, .int .i64 a0_4, .int .i64 a0_5, .int .i64 a0_6, .int .i64 a0_7, .int .i64 a0_8, .slice A0_9 l0_9.length c0_9, .slice A0_10 l0_10.length c0_10] 29 (0, 0))) := ⟨(by rw [hw]; exact (by (with_reducible repeat (first | refine blk_drewN ?_ _ | refine blk_drew ?_ | refine blk_alloc ?_ _)); refine blk_far ?_ NB202_244.out _; (with_reducible repeat (first | refine blk_drewN ?_ _ | refine blk_drew ?_ | refine blk_alloc ?_ _)); exact BK202.out))⟩; have n5_ : Aside0 (w4017.heap[gb244]? = some (.cells #[.int .i64 t229, .int .i64 t230, .bool t231, .bool true, .int .i64 (wrap64 (a0_4 + x10_3)), .int .i64 t234, .int .i64 t235, .int .i64 t236, .int .i64 t237, .slice Ao4006 t238.length co4006, .slice Ao4015 t246.length co4015] 29 (0, 0))) := ⟨(by rw [hw]; exact (by (with_reducible repeat (first | refine blk_drewN ?_ _ | refine blk_drew ?_ | refine blk_alloc ?_ _)); refine blk_put (cs := #[.int .i64 t229, .int .i64 t230, .bool t231, .bool true, .int .i64 (wrap64 (a0_4 + x10_3)), .int .i64 t234, .int .i64 t235, .int .i64 t236, .int .i64 t237, .slice Ao4006 t238.length co4006, .slice Ao4007 t241.length co4007]) ?_ 10 _ rfl; (with_reducible repeat (first | refine blk_drewN ?_ _ | refine blk_drew ?_ | refine blk_alloc ?_ _)); exact BK244.out))⟩; have n6_ : Aside0 (Below w.heap.size w w4017) := ⟨(by rw [hw]; exact wB)⟩; clear hw; clear HO_9; clear HO240; clear HO243; clear HO248; clear BK202; clear BK244; clear HB; have HO_9 := n0_; have HO240 := n1_; have HO243 := n2_; have HO248 := n3_; have BK202 := n4_; have BK244 := n5_; have HB := n6_; clear n0_ n1_ n2_ n3_ n4_ n5_ n6_; obtain ⟨⟨hcz4018_0, hcz4018_1, hcz4018_2, hcz4018_3, hcz4018_4, hcz4018_5, hcz4018_6, hcz4018_7, hcz4018_8, hcz4018_9, hcz4018_10⟩, hfz4018_0, hfz4018_1, hfz4018_2, hfz4018_3, hfz4018_4, hfz4018_5, hfz4018_6, hfz4018_7, hfz4018_8, hfz4018_9, hfz4018_10⟩ := cells11 BK244.out) | ((with_reducible refine gate_builtin (b := .append) (xs := #[.tmp 87, .tmp 89]) rfl ?_); at_builtin; refine Kd.N_append k29 (w0 := w) w.heap.size rfl (.tmp 87) (.tmp 89) 26 29 (.agg #[(.int .i64 0), (.int .i64 0), (.bool false), (.bool false), (.int .i64 0), (.int .i64 0), (.int .i64 0), (.int .i64 0), (.int .i64 0), (.slice none 0 0), (.slice none 0 0)]) 112 rfl Try.underlying26 info29 rfl (by decide) (by omega) u9 x9_3 (⟨t229, t230, t231, true, wrap64 (a0_4 + x10_3), t234, t235, t236, t237, t238, t246⟩ : S29) [.int .i64 t229, .int .i64 t230, .bool t231, .bool true, .int .i64 (wrap64 (a0_4 + x10_3)), .int .i64 t234, .int .i64 t235, .int .i64 t236, .int .i64 t237, .slice Ao4006 t238.length co4006, .slice Ao4015 t246.length co4015] (fun k_ => (w.heap.size ≤ k_) ∧ some k_ ≠ (.slice Ao4007 t241.length co4007 : Value).ownBlock ∧ k_ ≠ gb202 ∧ k_ ≠ gb244) (fun k_ => ((fun k_ => (w.heap.size ≤ k_) ∧ some k_ ≠ (.slice Ao4007 t241.length co4007 : Value).ownBlock ∧ k_ ≠ gb202 ∧ k_ ≠ gb244)) k_ ∧ some k_ ≠ (u9 : Value).ownBlock) rfl rfl ?aP (fun _ hk => hk) ?aF ?aO ?aB ?aS ?aL ?_; (case aP => exact (k29_mkF _ _ (⟨t229, t230, t231, true, wrap64 (a0_4 + x10_3), t234, t235, t236, t237, t238, t246⟩ : S29) (Kd.R_reads' (Kd.R_mono (ok' := (fun k_ => ((fun k_ => (w.heap.size ≤ k_) ∧ some k_ ≠ (.slice Ao4007 t241.length co4007 : Value).ownBlock ∧ k_ ≠ gb202 ∧ k_ ≠ gb244)) k_ ∧ some k_ ≠ (u9 : Value).ownBlock)) (Kd.R_types (Kd.R_types (Kd.R_apart' (HO240.out) (Kd.N_typed HO_9.out) (by decide)) BK202.out (by decide)) BK244.out (by decide)) (fun k_ hk => ⟨⟨hk.1.1.1.1, ⟨hk.1.1.1.2.1, ⟨hk.1.2, hk.2⟩⟩⟩, hk.1.1.2⟩))).2.1 (Kd.R_F (Kd.R_mono (ok' := (fun k_ => ((fun k_ => (w.heap.size ≤ k_) ∧ some k_ ≠ (.slice Ao4007 t241.length co4007 : Value).ownBlock ∧ k_ ≠ gb202 ∧ k_ ≠ gb244)) k_ ∧ some k_ ≠ (u9 : Value).ownBlock)) (Kd.R_types (Kd.R_types (Kd.R_apart' (HO240.out) (Kd.N_typed HO_9.out) (by decide)) BK202.out (by decide)) BK244.out (by decide)) (fun k_ hk => ⟨⟨hk.1.1.1.1, ⟨hk.1.1.1.2.1, ⟨hk.1.2, hk.2⟩⟩⟩, hk.1.1.2⟩))) (Kd.R_reads' (Kd.R_mono (ok' := (fun k_ => ((fun k_ => (w.heap.size ≤ k_) ∧ some k_ ≠ (.slice Ao4007 t241.length co4007 : Value).ownBlock ∧ k_ ≠ gb202 ∧ k_ ≠ gb244)) k_ ∧ some k_ ≠ (u9 : Value).ownBlock)) (Kd.R_types (Kd.R_types (Kd.R_apart' (HO248.out) (Kd.N_typed HO_9.out) (by decide)) BK202.out (by decide)) BK244.out (by decide)) (fun k_ hk => ⟨⟨hk.1.1.1.1, ⟨hk.1.1.1.2.2, ⟨hk.1.2, hk.2⟩⟩⟩, hk.1.1.2⟩))).2.1 (Kd.R_F (Kd.R_mono (ok' := (fun k_ => ((fun k_ => (w.heap.size ≤ k_) ∧ some k_ ≠ (.slice Ao4007 t241.length co4007 : Value).ownBlock ∧ k_ ≠ gb202 ∧ k_ ≠ gb244)) k_ ∧ some k_ ≠ (u9 : Value).ownBlock)) (Kd.R_types (Kd.R_types (Kd.R_apart' (HO248.out) (Kd.N_typed HO_9.out) (by decide)) BK202.out (by decide)) BK244.out (by decide)) (fun k_ hk => ⟨⟨hk.1.1.1.1, ⟨hk.1.1.1.2.2, ⟨hk.1.2, hk.2⟩⟩⟩, hk.1.1.2⟩))))); (case aB => exact wB); (case aF => exact (fun k_ hk => ⟨(Nat.le_trans (below_size wB) hk), Kd.fresh' (Kd.R_lt (Rh HO243)) k_ hk, Kd.freshB (Bh BK202) k_ hk, Kd.freshB (Bh BK244) k_ hk⟩)); (case aO => exact (by (with_reducible repeat (first | apply Kd.N_alloc | apply Kd.N_drewN | apply Kd.N_drew)); exact Kd.N_mono HO_9.out (fun _ hk => ⟨hk.1, ⟨hk.2.2.1, ⟨hk.2.2.2.2.1, hk.2.2.2.2.2⟩⟩⟩))); (case aS => exact (below_size wB)); (case aL => have := LMc3010.out; omega); intro v250 w4019 ho hb hg hat; rw [← Ny249.out] at ho; have n0_ := Aside0.mk (blk_grown (Bh BK202) hg (Kd.N_away HO_9.out (fun _ hk => hk.2.2.2.2.1))); have n1_ := Aside0.mk (Kd.R_over' (Rh HO243) (Kd.N_typed (by (with_reducible repeat (first | apply Kd.N_alloc | apply Kd.N_drewN | apply Kd.N_drew)); exact HO_9.out)) (by decide) hg); have n2_ := Aside0.mk (blk_grown (Bh BK244) hg (Kd.N_away HO_9.out (fun _ hk => hk.2.2.2.2.2))); have n3_ := Aside0.mk (hb); have n4_ := Aside0.mk (ho); clear BK202; clear HO243; clear BK244; clear HB; clear HO_9; clear HO240; clear HO248; have BK202 := n0_; have HO243 := n1_; have BK244 := n2_; have HB := n3_; have HO251 := n4_; clear n0_ n1_ n2_ n3_ n4_; clear ho hb hg hat))
 go_roundg k3
 case measure => have := HJ3.out; have := HJ1009.out; have := HK3.out; omega
 case rel => exact ⟨(y249), (wrap64 (x10_3 + (wrap64 ((wrap64 (Int.tdiv (wrap64 ((wrap64 (a1 - 20)) - (l0_9.length : Int))) 8)) * 8)))), (by first | rfl | (simp; done) | (simp [*]; done)), H', ⟨by have := HJ3.out; have := HJ1009.out; have := HK3.out; omega⟩, ⟨by (with_reducible repeat (first | apply Kd.N_alloc | apply Kd.N_drewN | apply Kd.N_drew)); exact Kd.N_mono HO251.out (fun _ hk => ⟨hk.1, hk.2.2.1⟩)⟩, ⟨Bh BK202⟩, ⟨wB⟩⟩
 }
 {
 go_wp2_with (first | ((with_reducible refine gate_callee (f := 16) rfl ?_); refine goesL_ (some 58) rfl rfl Try.func16 (by kernel_rfl) rfl #[.agg #[.int .i64 a0_0, .int .i64 a0_1, .bool a0_2, .bool a0_3, .int .i64 a0_4, .int .i64 a0_5, .int .i64 a0_6, .int .i64 a0_7, .int .i64 a0_8, .slice A0_9 l0_9.length c0_9, .slice A0_10 l0_10.length c0_10]] rfl wT ?_; (with_reducible refine (spec_l06CopyPacket.calls k3 a0_0 a0_1 a0_2 a0_3 a0_4 a0_5 a0_6 a0_7 a0_8 _ _ l0_9 _ _ l0_10 t229 t230 t231 t232 t233 t234 t235 t236 t237 t238 t241 _ ?side1 ?side2 ?side3 ?side4 A3004.out).mono ?_); (case side1 => exact Kd.C_below HR0_9.out wB); (case side2 => exact HC0_9.out); (case side3 => exact Kd.C_below HR0_10.out wB); (case side4 => exact HC0_10.out); rintro e w4002 ⟨v239, v242, rfl, ho0, ho1, hb⟩; refine ⟨_, rfl, ?_⟩; have n0_ := Aside0.mk (Kd.N_mono (Kd.N_told (Kd.N_told (Kd.N_old (by (with_reducible repeat (first | apply Kd.N_alloc | apply Kd.N_drewN | apply Kd.N_drew)); exact HO_9.out) hb) (Kd.R_base ho0)) (Kd.R_base ho1)) (fun _ h_ => h_.1)); have n1_ := Aside0.mk (Kd.R_lower (Kd.R_newM (M := fun k_ => (w.heap.size ≤ k_)) ho0 (below_size wB) (fun k_ h_ => h_)) (below_size wB)); have n2_ := Aside0.mk (Kd.R_lower (Kd.R_newM (M := fun k_ => (w.heap.size ≤ k_)) ho1 (below_size wB) (fun k_ h_ => h_)) (below_size wB)); have n3_ := Aside0.mk (blk_below (Bh BK202) hb); have n4_ := Aside0.mk (below_step wB hb); clear HO_9; clear BK202; clear HB; have HO_9 := n0_; have HO240 := n1_; have HO243 := n2_; have BK202 := n3_; have HB := n4_; clear n0_ n1_ n2_ n3_ n4_; (try clear hb); (try clear hb2); (try clear hk); (try clear hi); (try clear ho0); (try clear ho1)) | ((with_reducible refine gate_dst (N := 11) rfl ?_); refine box_event ?hg (N := 11) ?hd (cs := #[.int .i64 0, .int .i64 0, .bool false, .bool false, .int .i64 0, .int .i64 0, .int .i64 0, .int .i64 0, .int .i64 0, .slice none 0 0, .slice none 0 0]) (t := 29) ?hr ?_; (case hd => rfl); (case hg => rfl); (case hr => first | (go_simp; done) | (go_simp; rfl)); intro gb244 hg w4003 hbox hb; have n0_ := Aside0.mk (Kd.N_below (Kd.N_elderB (by (with_reducible repeat (first | apply Kd.N_alloc | apply Kd.N_drewN | apply Kd.N_drew)); exact HO_9.out) gb244 (Nat.le_of_eq hg.symm)) hb); have n1_ := Aside0.mk (Kd.R_below (Rh HO240) hb); have n2_ := Aside0.mk (Kd.R_below (Rh HO243) hb); have n3_ := Aside0.mk (blk_below (Bh BK202) hb); have n4_ := Aside0.mk (below_step wB hb); have n5_ := Aside0.mk (hbox); have n6_ := Aside0.mk ((by rw [hg]; exact (below_size wB) : w.heap.size ≤ gb244)); have n7_ := Aside0.mk ((by rw [hg]; exact (below_size wB) : w.heap.size ≤ gb244)); have n8_ := Aside0.mk ((by rw [hg]; exact Nat.ne_of_lt (blk_lt (Bh BK202)) : gb202 ≠ gb244)); have n9_ := Aside0.mk ((by rw [hg]; exact Nat.ne_of_gt (blk_lt (Bh BK202)) : gb244 ≠ gb202)); clear HO_9; clear HO240; clear HO243; clear BK202; clear HB; have HO_9 := n0_; have HO240 := n1_; have HO243 := n2_; have BK202 := n3_; have HB := n4_; have BK244 := n5_; have GW244 := n6_; have GE244 := n7_; have NB202_244 := n8_; have NB244_202 := n9_; clear n0_ n1_ n2_ n3_ n4_ n5_ n6_ n7_ n8_ n9_; clear hb hbox hg; have hnb4004 := NB244_202.out; have hnc4004 := NB202_244.out; obtain ⟨⟨hcz4005_0, hcz4005_1, hcz4005_2, hcz4005_3, hcz4005_4, hcz4005_5, hcz4005_6, hcz4005_7, hcz4005_8, hcz4005_9, hcz4005_10⟩, hfz4005_0, hfz4005_1, hfz4005_2, hfz4005_3, hfz4005_4, hfz4005_5, hfz4005_6, hfz4005_7, hfz4005_8, hfz4005_9, hfz4005_10⟩ := cells11 BK244.out; obtain ⟨Ao4006, co4006, eo4006⟩ := Kd.R_slice HO240.out; subst eo4006; obtain ⟨Ao4007, co4007, eo4007⟩ := Kd.R_slice HO243.out; subst eo4007) | ((with_reducible refine gate_store (t := 29) (p := 11) rfl ?_); refine store_event (t := 29) (p := 11) (v := ?_) (w1 := (((((((((((w4003.setCell ⟨gb244, 0, none⟩ (.int .i64 t229)).setCell ⟨gb244, 1, none⟩ (.int .i64 t230)).setCell ⟨gb244, 2, none⟩ (.bool t231)).setCell ⟨gb244, 3, none⟩ (.bool t232)).setCell ⟨gb244, 4, none⟩ (.int .i64 t233)).setCell ⟨gb244, 5, none⟩ (.int .i64 t234)).setCell ⟨gb244, 6, none⟩ (.int .i64 t235)).setCell ⟨gb244, 7, none⟩ (.int .i64 t236)).setCell ⟨gb244, 8, none⟩ (.int .i64 t237)).setCell ⟨gb244, 9, none⟩ (.slice Ao4006 t238.length co4006)).setCell ⟨gb244, 10, none⟩ (.slice Ao4007 t241.length co4007))) ?hg ?ho ?hn ?hr ?_; (case ho => rfl); (case hg => rfl); (case hn => rfl); (case hr => first | (go_simp; done) | (go_simp; rfl)); intro w4008 hw; have n0_ : Aside0 (Kd.N k29 29 w4008 w.heap.size (fun k_ => (w.heap.size ≤ k_) ∧ some k_ ≠ (.slice Ao4006 t238.length co4006 : Value).ownBlock ∧ some k_ ≠ (.slice Ao4007 t241.length co4007 : Value).ownBlock ∧ k_ ≠ gb202 ∧ k_ ≠ gb244) u9 x9_3) := ⟨(by rw [hw]; exact (by (with_reducible repeat (first | apply Kd.N_alloc | apply Kd.N_drewN | apply Kd.N_drew)); exact Kd.N_mono (Kd.N_far (p := ⟨gb244, 10, none⟩) (Kd.N_far (p := ⟨gb244, 9, none⟩) (Kd.N_far (p := ⟨gb244, 8, none⟩) (Kd.N_far (p := ⟨gb244, 7, none⟩) (Kd.N_far (p := ⟨gb244, 6, none⟩) (Kd.N_far (p := ⟨gb244, 5, none⟩) (Kd.N_far (p := ⟨gb244, 4, none⟩) (Kd.N_far (p := ⟨gb244, 3, none⟩) (Kd.N_far (p := ⟨gb244, 2, none⟩) (Kd.N_far (p := ⟨gb244, 1, none⟩) (Kd.N_far (p := ⟨gb244, 0, none⟩) (Kd.N_mono HO_9.out (fun k_ hk => (⟨hk, hk.2⟩ : _ ∧ k_ ≠ gb244))) (fun _ hk => hk.2) (.int .i64 t229)) (fun _ hk => hk.2) (.int .i64 t230)) (fun _ hk => hk.2) (.bool t231)) (fun _ hk => hk.2) (.bool t232)) (fun _ hk => hk.2) (.int .i64 t233)) (fun _ hk => hk.2) (.int .i64 t234)) (fun _ hk => hk.2) (.int .i64 t235)) (fun _ hk => hk.2) (.int .i64 t236)) (fun _ hk => hk.2) (.int .i64 t237)) (fun _ hk => hk.2) (.slice Ao4006 t238.length co4006)) (fun _ hk => hk.2) (.slice Ao4007 t241.length co4007)) (fun _ hk => ⟨hk.1.1.1.1.1, ⟨hk.1.1.1.2, ⟨hk.1.1.2, ⟨hk.1.1.1.1.2, hk.1.2⟩⟩⟩⟩)))⟩; have n1_ : Aside0 (Kd.R (Kd.int .u8) 5 w4008 w.heap.size (fun k_ => (w.heap.size ≤ k_) ∧ some k_ ≠ (.slice Ao4007 t241.length co4007 : Value).ownBlock) (.slice Ao4006 t238.length co4006) t238) := ⟨(by rw [hw]; exact (by (with_reducible repeat (first | apply Kd.R_alloc | apply Kd.R_drewN | apply Kd.R_drew)); exact Kd.R_mono (Kd.R_far (p := ⟨gb244, 10, none⟩) (Kd.R_far (p := ⟨gb244, 9, none⟩) (Kd.R_far (p := ⟨gb244, 8, none⟩) (Kd.R_far (p := ⟨gb244, 7, none⟩) (Kd.R_far (p := ⟨gb244, 6, none⟩) (Kd.R_far (p := ⟨gb244, 5, none⟩) (Kd.R_far (p := ⟨gb244, 4, none⟩) (Kd.R_far (p := ⟨gb244, 3, none⟩) (Kd.R_far (p := ⟨gb244, 2, none⟩) (Kd.R_far (p := ⟨gb244, 1, none⟩) (Kd.R_far (p := ⟨gb244, 0, none⟩) (Kd.R_types HO240.out BK244.out (by decide)) (fun _ hk => hk.2) (.int .i64 t229)) (fun _ hk => hk.2) (.int .i64 t230)) (fun _ hk => hk.2) (.bool t231)) (fun _ hk => hk.2) (.bool t232)) (fun _ hk => hk.2) (.int .i64 t233)) (fun _ hk => hk.2) (.int .i64 t234)) (fun _ hk => hk.2) (.int .i64 t235)) (fun _ hk => hk.2) (.int .i64 t236)) (fun _ hk => hk.2) (.int .i64 t237)) (fun _ hk => hk.2) (.slice Ao4006 t238.length co4006)) (fun _ hk => hk.2) (.slice Ao4007 t241.length co4007)) (fun _ hk => ⟨hk.1.1, hk.1.2⟩)))⟩; have n2_ : Aside0 (Kd.R (Kd.int .u8) 5 w4008 w.heap.size (fun k_ => (w.heap.size ≤ k_) ∧ some k_ ≠ (.slice Ao4006 t238.length co4006 : Value).ownBlock) (.slice Ao4007 t241.length co4007) t241) := ⟨(by rw [hw]; exact (by (with_reducible repeat (first | apply Kd.R_alloc | apply Kd.R_drewN | apply Kd.R_drew)); exact Kd.R_mono (Kd.R_far (p := ⟨gb244, 10, none⟩) (Kd.R_far (p := ⟨gb244, 9, none⟩) (Kd.R_far (p := ⟨gb244, 8, none⟩) (Kd.R_far (p := ⟨gb244, 7, none⟩) (Kd.R_far (p := ⟨gb244, 6, none⟩) (Kd.R_far (p := ⟨gb244, 5, none⟩) (Kd.R_far (p := ⟨gb244, 4, none⟩) (Kd.R_far (p := ⟨gb244, 3, none⟩) (Kd.R_far (p := ⟨gb244, 2, none⟩) (Kd.R_far (p := ⟨gb244, 1, none⟩) (Kd.R_far (p := ⟨gb244, 0, none⟩) (Kd.R_types HO243.out BK244.out (by decide)) (fun _ hk => hk.2) (.int .i64 t229)) (fun _ hk => hk.2) (.int .i64 t230)) (fun _ hk => hk.2) (.bool t231)) (fun _ hk => hk.2) (.bool t232)) (fun _ hk => hk.2) (.int .i64 t233)) (fun _ hk => hk.2) (.int .i64 t234)) (fun _ hk => hk.2) (.int .i64 t235)) (fun _ hk => hk.2) (.int .i64 t236)) (fun _ hk => hk.2) (.int .i64 t237)) (fun _ hk => hk.2) (.slice Ao4006 t238.length co4006)) (fun _ hk => hk.2) (.slice Ao4007 t241.length co4007)) (fun _ hk => ⟨hk.1.1, hk.1.2⟩)))⟩; have n3_ : Aside0 (w4008.heap[gb202]? = some (.cells #[.int .i64 a0_0, .int .i64 a0_1, .bool a0_2, .bool a0_3, .int .i64 a0_4, .int .i64 a0_5, .int .i64 a0_6, .int .i64 a0_7, .int .i64 a0_8, .slice A0_9 l0_9.length c0_9, .slice A0_10 l0_10.length c0_10] 29 (0, 0))) := ⟨(by rw [hw]; exact (by (with_reducible repeat (first | refine blk_drewN ?_ _ | refine blk_drew ?_ | refine blk_alloc ?_ _)); refine blk_far ?_ NB202_244.out _; (with_reducible repeat (first | refine blk_drewN ?_ _ | refine blk_drew ?_ | refine blk_alloc ?_ _)); refine blk_far ?_ NB202_244.out _; (with_reducible repeat (first | refine blk_drewN ?_ _ | refine blk_drew ?_ | refine blk_alloc ?_ _)); refine blk_far ?_ NB202_244.out _; (with_reducible repeat (first | refine blk_drewN ?_ _ | refine blk_drew ?_ | refine blk_alloc ?_ _)); refine blk_far ?_ NB202_244.out _; (with_reducible repeat (first | refine blk_drewN ?_ _ | refine blk_drew ?_ | refine blk_alloc ?_ _)); refine blk_far ?_ NB202_244.out _; (with_reducible repeat (first | refine blk_drewN ?_ _ | refine blk_drew ?_ | refine blk_alloc ?_ _)); refine blk_far ?_ NB202_244.out _; (with_reducible repeat (first | refine blk_drewN ?_ _ | refine blk_drew ?_ | refine blk_alloc ?_ _)); refine blk_far ?_ NB202_244.out _; (with_reducible repeat (first | refine blk_drewN ?_ _ | refine blk_drew ?_ | refine blk_alloc ?_ _)); refine blk_far ?_ NB202_244.out _; (with_reducible repeat (first | refine blk_drewN ?_ _ | refine blk_drew ?_ | refine blk_alloc ?_ _)); refine blk_far ?_ NB202_244.out _; (with_reducible repeat (first | refine blk_drewN ?_ _ | refine blk_drew ?_ | refine blk_alloc ?_ _)); refine blk_far ?_ NB202_244.out _; (with_reducible repeat (first | refine blk_drewN ?_ _ | refine blk_drew ?_ | refine blk_alloc ?_ _)); refine blk_far ?_ NB202_244.out _; (with_reducible repeat (first | refine blk_drewN ?_ _ | refine blk_drew ?_ | refine blk_alloc ?_ _)); exact BK202.out))⟩; have n4_ : Aside0 (w4008.heap[gb244]? = some (.cells #[.int .i64 t229, .int .i64 t230, .bool t231, .bool t232, .int .i64 t233, .int .i64 t234, .int .i64 t235, .int .i64 t236, .int .i64 t237, .slice Ao4006 t238.length co4006, .slice Ao4007 t241.length co4007] 29 (0, 0))) := ⟨(by rw [hw]; exact (by (with_reducible repeat (first | refine blk_drewN ?_ _ | refine blk_drew ?_ | refine blk_alloc ?_ _)); refine blk_put (cs := #[.int .i64 t229, .int .i64 t230, .bool t231, .bool t232, .int .i64 t233, .int .i64 t234, .int .i64 t235, .int .i64 t236, .int .i64 t237, .slice Ao4006 t238.length co4006, .slice none 0 0]) ?_ 10 _ rfl; (with_reducible repeat (first | refine blk_drewN ?_ _ | refine blk_drew ?_ | refine blk_alloc ?_ _)); refine blk_put (cs := #[.int .i64 t229, .int .i64 t230, .bool t231, .bool t232, .int .i64 t233, .int .i64 t234, .int .i64 t235, .int .i64 t236, .int .i64 t237, .slice none 0 0, .slice none 0 0]) ?_ 9 _ rfl; (with_reducible repeat (first | refine blk_drewN ?_ _ | refine blk_drew ?_ | refine blk_alloc ?_ _)); refine blk_put (cs := #[.int .i64 t229, .int .i64 t230, .bool t231, .bool t232, .int .i64 t233, .int .i64 t234, .int .i64 t235, .int .i64 t236, .int .i64 0, .slice none 0 0, .slice none 0 0]) ?_ 8 _ rfl; (with_reducible repeat (first | refine blk_drewN ?_ _ | refine blk_drew ?_ | refine blk_alloc ?_ _)); refine blk_put (cs := #[.int .i64 t229, .int .i64 t230, .bool t231, .bool t232, .int .i64 t233, .int .i64 t234, .int .i64 t235, .int .i64 0, .int .i64 0, .slice none 0 0, .slice none 0 0]) ?_ 7 _ rfl; (with_reducible repeat (first | refine blk_drewN ?_ _ | refine blk_drew ?_ | refine blk_alloc ?_ _)); refine blk_put (cs := #[.int .i64 t229, .int .i64 t230, .bool t231, .bool t232, .int .i64 t233, .int .i64 t234, .int .i64 0, .int .i64 0, .int .i64 0, .slice none 0 0, .slice none 0 0]) ?_ 6 _ rfl; (with_reducible repeat (first | refine blk_drewN ?_ _ | refine blk_drew ?_ | refine blk_alloc ?_ _)); refine blk_put (cs := #[.int .i64 t229, .int .i64 t230, .bool t231, .bool t232, .int .i64 t233, .int .i64 0, .int .i64 0, .int .i64 0, .int .i64 0, .slice none 0 0, .slice none 0 0]) ?_ 5 _ rfl; (with_reducible repeat (first | refine blk_drewN ?_ _ | refine blk_drew ?_ | refine blk_alloc ?_ _)); refine blk_put (cs := #[.int .i64 t229, .int .i64 t230, .bool t231, .bool t232, .int .i64 0, .int .i64 0, .int .i64 0, .int .i64 0, .int .i64 0, .slice none 0 0, .slice none 0 0]) ?_ 4 _ rfl; (with_reducible repeat (first | refine blk_drewN ?_ _ | refine blk_drew ?_ | refine blk_alloc ?_ _)); refine blk_put (cs := #[.int .i64 t229, .int .i64 t230, .bool t231, .bool false, .int .i64 0, .int .i64 0, .int .i64 0, .int .i64 0, .int .i64 0, .slice none 0 0, .slice none 0 0]) ?_ 3 _ rfl; (with_reducible repeat (first | refine blk_drewN ?_ _ | refine blk_drew ?_ | refine blk_alloc ?_ _)); refine blk_put (cs := #[.int .i64 t229, .int .i64 t230, .bool false, .bool false, .int .i64 0, .int .i64 0, .int .i64 0, .int .i64 0, .int .i64 0, .slice none 0 0, .slice none 0 0]) ?_ 2 _ rfl; (with_reducible repeat (first | refine blk_drewN ?_ _ | refine blk_drew ?_ | refine blk_alloc ?_ _)); refine blk_put (cs := #[.int .i64 t229, .int .i64 0, .bool false, .bool false, .int .i64 0, .int .i64 0, .int .i64 0, .int .i64 0, .int .i64 0, .slice none 0 0, .slice none 0 0]) ?_ 1 _ rfl; (with_reducible repeat (first | refine blk_drewN ?_ _ | refine blk_drew ?_ | refine blk_alloc ?_ _)); refine blk_put (cs := #[.int .i64 0, .int .i64 0, .bool false, .bool false, .int .i64 0, .int .i64 0, .int .i64 0, .int .i64 0, .int .i64 0, .slice none 0 0, .slice none 0 0]) ?_ 0 _ rfl; (with_reducible repeat (first | refine blk_drewN ?_ _ | refine blk_drew ?_ | refine blk_alloc ?_ _)); exact BK244.out))⟩; have n5_ : Aside0 (Below w.heap.size w w4008) := ⟨(by rw [hw]; exact wB)⟩; clear hw; clear HO_9; clear HO240; clear HO243; clear BK202; clear BK244; clear HB; have HO_9 := n0_; have HO240 := n1_; have HO243 := n2_; have BK202 := n3_; have BK244 := n4_; have HB := n5_; clear n0_ n1_ n2_ n3_ n4_ n5_; obtain ⟨⟨hcz4009_0, hcz4009_1, hcz4009_2, hcz4009_3, hcz4009_4, hcz4009_5, hcz4009_6, hcz4009_7, hcz4009_8, hcz4009_9, hcz4009_10⟩, hfz4009_0, hfz4009_1, hfz4009_2, hfz4009_3, hfz4009_4, hfz4009_5, hfz4009_6, hfz4009_7, hfz4009_8, hfz4009_9, hfz4009_10⟩ := cells11 BK202.out; obtain ⟨⟨hcz4010_0, hcz4010_1, hcz4010_2, hcz4010_3, hcz4010_4, hcz4010_5, hcz4010_6, hcz4010_7, hcz4010_8, hcz4010_9, hcz4010_10⟩, hfz4010_0, hfz4010_1, hfz4010_2, hfz4010_3, hfz4010_4, hfz4010_5, hfz4010_6, hfz4010_7, hfz4010_8, hfz4010_9, hfz4010_10⟩ := cells11 BK244.out; obtain ⟨i04011, hi04011, _, hsz4011, _⟩ := info_parts info5; obtain ⟨A4011, hcut4011, hA4011, hC4011⟩ := print_drop_of (P := Try.prog) (Value.int .u8) 0 22 5 .i64 Try.underlying22 hi04011 hsz4011 A0_10 c0_10 l0_10 x10_3 (of_decide_eq_true (by first | (with_reducible assumption) | assumption)) (of_decide_eq_true (by first | (with_reducible assumption) | assumption)) HC0_10.out; have HR252 := Aside0.mk (Kd.C_of_reads (h1 := fun _ => rfl) (hA4011 _ (Kd.reads_of_C HR0_10.out))); have HC252 := Aside0.mk hC4011; clear hA4011 hC4011 hi04011 hsz4011) | ((with_reducible refine gate_callee (f := 17) rfl ?_); refine goesL_ (some 85) rfl rfl Try.func17 (by kernel_rfl) rfl #[.slice A4011 (l0_10.drop (x10_3 : Int).toNat).length (c0_10 - x10_3.toNat)] rfl (by (try simp only [List.map_toArray, List.map_cons, List.map_nil]); first | done | (rw [show (l0_10.drop (x10_3 : Int).toNat).length = (l0_10.length - x10_3.toNat) from List.length_drop] <;> rfl) | rfl | (simp only [List.length_drop, List.length_take]; rfl)) ?_; (with_reducible refine (spec_l01Copy.calls k3 _ _ (l0_10.drop (x10_3 : Int).toNat) t253 _ ?side1 ?side2 A3013.out).mono ?_); (case side1 => exact Kd.C_below HR252.out wB); (case side2 => exact HC252.out); rintro e w4012 ⟨v254, rfl, ho0, hb⟩; refine ⟨_, rfl, ?_⟩; have n0_ := Aside0.mk (Kd.N_elder' (by (with_reducible repeat (first | apply Kd.N_alloc | apply Kd.N_drewN | apply Kd.N_drew)); exact (Kd.N_mono (Kd.N_far (p := ⟨gb244, 4, none⟩) (Kd.N_mono HO_9.out (fun k_ hk => (⟨hk, hk.2.2.2.2⟩ : _ ∧ k_ ≠ gb244))) (fun _ hk => hk.2) (.int .i64 (wrap64 (a0_4 + x10_3)))) (fun _ h_ => h_.1))) (Kd.R_base ho0) hb); have n1_ := Aside0.mk (Kd.R_elder' (by (with_reducible repeat (first | apply Kd.R_alloc | apply Kd.R_drewN | apply Kd.R_drew)); exact (Kd.R_mono (Kd.R_far (p := ⟨gb244, 4, none⟩) (Kd.R_types HO240.out BK244.out (by decide)) (fun _ hk => hk.2) (.int .i64 (wrap64 (a0_4 + x10_3)))) (fun _ h_ => h_.1))) (Kd.R_base ho0) hb); have n2_ := Aside0.mk (Kd.R_elder' (by (with_reducible repeat (first | apply Kd.R_alloc | apply Kd.R_drewN | apply Kd.R_drew)); exact (Kd.R_mono (Kd.R_far (p := ⟨gb244, 4, none⟩) (Kd.R_types HO243.out BK244.out (by decide)) (fun _ hk => hk.2) (.int .i64 (wrap64 (a0_4 + x10_3)))) (fun _ h_ => h_.1))) (Kd.R_base ho0) hb); have n3_ := Aside0.mk (Kd.R_lower (Kd.R_new' (Kd.R_new' (Kd.R_newM (M := fun k_ => (w.heap.size ≤ k_)) ho0 (below_size wB) (fun k_ h_ => h_)) (Kd.R_lt (by (with_reducible repeat (first | apply Kd.R_alloc | apply Kd.R_drewN | apply Kd.R_drew)); exact (Kd.R_mono (Kd.R_far (p := ⟨gb244, 4, none⟩) (Kd.R_types HO240.out BK244.out (by decide)) (fun _ hk => hk.2) (.int .i64 (wrap64 (a0_4 + x10_3)))) (fun _ h_ => h_.1))))) (Kd.R_lt (by (with_reducible repeat (first | apply Kd.R_alloc | apply Kd.R_drewN | apply Kd.R_drew)); exact (Kd.R_mono (Kd.R_far (p := ⟨gb244, 4, none⟩) (Kd.R_types HO243.out BK244.out (by decide)) (fun _ hk => hk.2) (.int .i64 (wrap64 (a0_4 + x10_3)))) (fun _ h_ => h_.1))))) (below_size wB)); have n4_ := Aside0.mk (blk_below (g := gb202) (o := .cells #[.int .i64 a0_0, .int .i64 a0_1, .bool a0_2, .bool a0_3, .int .i64 a0_4, .int .i64 a0_5, .int .i64 a0_6, .int .i64 a0_7, .int .i64 a0_8, .slice A0_9 l0_9.length c0_9, .slice A0_10 l0_10.length c0_10] 29 (0, 0)) (by (with_reducible repeat (first | refine blk_drewN ?_ _ | refine blk_drew ?_ | refine blk_alloc ?_ _)); refine blk_far ?_ NB202_244.out _; (with_reducible repeat (first | refine blk_drewN ?_ _ | refine blk_drew ?_ | refine blk_alloc ?_ _)); exact BK202.out) hb); have n5_ := Aside0.mk (blk_below (g := gb244) (o := .cells #[.int .i64 t229, .int .i64 t230, .bool t231, .bool t232, .int .i64 (wrap64 (a0_4 + x10_3)), .int .i64 t234, .int .i64 t235, .int .i64 t236, .int .i64 t237, .slice Ao4006 t238.length co4006, .slice Ao4007 t241.length co4007] 29 (0, 0)) (by (with_reducible repeat (first | refine blk_drewN ?_ _ | refine blk_drew ?_ | refine blk_alloc ?_ _)); refine blk_put (cs := #[.int .i64 t229, .int .i64 t230, .bool t231, .bool t232, .int .i64 t233, .int .i64 t234, .int .i64 t235, .int .i64 t236, .int .i64 t237, .slice Ao4006 t238.length co4006, .slice Ao4007 t241.length co4007]) ?_ 4 _ rfl; (with_reducible repeat (first | refine blk_drewN ?_ _ | refine blk_drew ?_ | refine blk_alloc ?_ _)); exact BK244.out) hb); have n6_ := Aside0.mk (below_step wB hb); clear HO_9; clear HO240; clear HO243; clear BK202; clear BK244; clear HB; have HO_9 := n0_; have HO240 := n1_; have HO243 := n2_; have HO255 := n3_; have BK202 := n4_; have BK244 := n5_; have HB := n6_; clear n0_ n1_ n2_ n3_ n4_ n5_ n6_; (try clear hb); (try clear hb2); (try clear hk); (try clear hi); (try clear ho0); obtain ⟨Ao4013, co4013, eo4013⟩ := Kd.R_slice HO255.out; subst eo4013; obtain ⟨⟨hcz4014_0, hcz4014_1, hcz4014_2, hcz4014_3, hcz4014_4, hcz4014_5, hcz4014_6, hcz4014_7, hcz4014_8, hcz4014_9, hcz4014_10⟩, hfz4014_0, hfz4014_1, hfz4014_2, hfz4014_3, hfz4014_4, hfz4014_5, hfz4014_6, hfz4014_7, hfz4014_8, hfz4014_9, hfz4014_10⟩ := cells11 BK244.out) | ((with_reducible refine gate_store (t := 22) (p := 86) rfl ?_); refine store_event (t := 22) (p := 86) (v := ?_) (w1 := (w4012.setCell ⟨gb244, 10, none⟩ (.slice Ao4013 t253.length co4013))) ?hg ?ho ?hn ?hr ?_; (case ho => rfl); (case hg => rfl); (case hn => rfl); (case hr => first | (go_simp; done) | (go_simp; rfl)); intro w4015 hw; have n0_ : Aside0 (Kd.N k29 29 w4015 w.heap.size (fun k_ => (w.heap.size ≤ k_) ∧ some k_ ≠ (.slice Ao4006 t238.length co4006 : Value).ownBlock ∧ some k_ ≠ (.slice Ao4007 t241.length co4007 : Value).ownBlock ∧ some k_ ≠ (.slice Ao4013 t253.length co4013 : Value).ownBlock ∧ k_ ≠ gb202 ∧ k_ ≠ gb244) u9 x9_3) := ⟨(by rw [hw]; exact (by (with_reducible repeat (first | apply Kd.N_alloc | apply Kd.N_drewN | apply Kd.N_drew)); exact Kd.N_mono (Kd.N_far (p := ⟨gb244, 10, none⟩) (Kd.N_mono HO_9.out (fun k_ hk => (⟨hk, hk.1.2.2.2.2⟩ : _ ∧ k_ ≠ gb244))) (fun _ hk => hk.2) (.slice Ao4013 t253.length co4013)) (fun _ hk => ⟨hk.1.1.1, ⟨hk.1.1.2.1, ⟨hk.1.1.2.2.1, ⟨hk.1.2, ⟨hk.1.1.2.2.2.1, hk.1.1.2.2.2.2⟩⟩⟩⟩⟩)))⟩; have n1_ : Aside0 (Kd.R (Kd.int .u8) 5 w4015 w.heap.size (fun k_ => (w.heap.size ≤ k_) ∧ some k_ ≠ (.slice Ao4007 t241.length co4007 : Value).ownBlock ∧ some k_ ≠ (.slice Ao4013 t253.length co4013 : Value).ownBlock) (.slice Ao4006 t238.length co4006) t238) := ⟨(by rw [hw]; exact (by (with_reducible repeat (first | apply Kd.R_alloc | apply Kd.R_drewN | apply Kd.R_drew)); exact Kd.R_mono (Kd.R_far (p := ⟨gb244, 10, none⟩) (Kd.R_types HO240.out BK244.out (by decide)) (fun _ hk => hk.2) (.slice Ao4013 t253.length co4013)) (fun _ hk => ⟨hk.1.1.1, ⟨hk.1.1.2, hk.1.2⟩⟩)))⟩; have n2_ : Aside0 (Kd.R (Kd.int .u8) 5 w4015 w.heap.size (fun k_ => (w.heap.size ≤ k_) ∧ some k_ ≠ (.slice Ao4006 t238.length co4006 : Value).ownBlock ∧ some k_ ≠ (.slice Ao4013 t253.length co4013 : Value).ownBlock) (.slice Ao4007 t241.length co4007) t241) := ⟨(by rw [hw]; exact (by (with_reducible repeat (first | apply Kd.R_alloc | apply Kd.R_drewN | apply Kd.R_drew)); exact Kd.R_mono (Kd.R_far (p := ⟨gb244, 10, none⟩) (Kd.R_types HO243.out BK244.out (by decide)) (fun _ hk => hk.2) (.slice Ao4013 t253.length co4013)) (fun _ hk => ⟨hk.1.1.1, ⟨hk.1.1.2, hk.1.2⟩⟩)))⟩; have n3_ : Aside0 (Kd.R (Kd.int .u8) 5 w4015 w.heap.size (fun k_ => (w.heap.size ≤ k_) ∧ some k_ ≠ (.slice Ao4006 t238.length co4006 : Value).ownBlock ∧ some k_ ≠ (.slice Ao4007 t241.length co4007 : Value).ownBlock) (.slice Ao4013 t253.length co4013) t253) := ⟨(by rw [hw]; exact (by (with_reducible repeat (first | apply Kd.R_alloc | apply Kd.R_drewN | apply Kd.R_drew)); exact Kd.R_mono (Kd.R_far (p := ⟨gb244, 10, none⟩) (Kd.R_types HO255.out BK244.out (by decide)) (fun _ hk => hk.2) (.slice Ao4013 t253.length co4013)) (fun _ hk => ⟨hk.1.1.1.1, ⟨hk.1.1.2, hk.1.2⟩⟩)))⟩; have n4_ : Aside0 (w4015.heap[gb202]? = some (.cells #[.int .i64 a0_0, .int .i64 a0_1, .bool a0_2, .bool a0_3, .int .i64 a0_4, .int .i64 a0_5, .int .i64 a0_6, .int .i64 a0_7, .int .i64 a0_8, .slice A0_9 l0_9.length c0_9, .slice A0_10 l0_10.length c0_10] 29 (0, 0))) := ⟨(by rw [hw]; exact (by (with_reducible repeat (first | refine blk_drewN ?_ _ | refine blk_drew ?_ | refine blk_alloc ?_ _)); refine blk_far ?_ NB202_244.out _; (with_reducible repeat (first | refine blk_drewN ?_ _ | refine blk_drew ?_ | refine blk_alloc ?_ _)); exact BK202.out))⟩; have n5_ : Aside0 (w4015.heap[gb244]? = some (.cells #[.int .i64 t229, .int .i64 t230, .bool t231, .bool t232, .int .i64 (wrap64 (a0_4 + x10_3)), .int .i64 t234, .int .i64 t235, .int .i64 t236, .int .i64 t237, .slice Ao4006 t238.length co4006, .slice Ao4013 t253.length co4013] 29 (0, 0))) := ⟨(by rw [hw]; exact (by (with_reducible repeat (first | refine blk_drewN ?_ _ | refine blk_drew ?_ | refine blk_alloc ?_ _)); refine blk_put (cs := #[.int .i64 t229, .int .i64 t230, .bool t231, .bool t232, .int .i64 (wrap64 (a0_4 + x10_3)), .int .i64 t234, .int .i64 t235, .int .i64 t236, .int .i64 t237, .slice Ao4006 t238.length co4006, .slice Ao4007 t241.length co4007]) ?_ 10 _ rfl; (with_reducible repeat (first | refine blk_drewN ?_ _ | refine blk_drew ?_ | refine blk_alloc ?_ _)); exact BK244.out))⟩; have n6_ : Aside0 (Below w.heap.size w w4015) := ⟨(by rw [hw]; exact wB)⟩; clear hw; clear HO_9; clear HO240; clear HO243; clear HO255; clear BK202; clear BK244; clear HB; have HO_9 := n0_; have HO240 := n1_; have HO243 := n2_; have HO255 := n3_; have BK202 := n4_; have BK244 := n5_; have HB := n6_; clear n0_ n1_ n2_ n3_ n4_ n5_ n6_; obtain ⟨⟨hcz4016_0, hcz4016_1, hcz4016_2, hcz4016_3, hcz4016_4, hcz4016_5, hcz4016_6, hcz4016_7, hcz4016_8, hcz4016_9, hcz4016_10⟩, hfz4016_0, hfz4016_1, hfz4016_2, hfz4016_3, hfz4016_4, hfz4016_5, hfz4016_6, hfz4016_7, hfz4016_8, hfz4016_9, hfz4016_10⟩ := cells11 BK244.out) | ((with_reducible refine gate_builtin (b := .append) (xs := #[.tmp 87, .tmp 89]) rfl ?_); at_builtin; refine Kd.N_append k29 (w0 := w) w.heap.size rfl (.tmp 87) (.tmp 89) 26 29 (.agg #[(.int .i64 0), (.int .i64 0), (.bool false), (.bool false), (.int .i64 0), (.int .i64 0), (.int .i64 0), (.int .i64 0), (.int .i64 0), (.slice none 0 0), (.slice none 0 0)]) 112 rfl Try.underlying26 info29 rfl (by decide) (by omega) u9 x9_3 (⟨t229, t230, t231, t232, wrap64 (a0_4 + x10_3), t234, t235, t236, t237, t238, t253⟩ : S29) [.int .i64 t229, .int .i64 t230, .bool t231, .bool t232, .int .i64 (wrap64 (a0_4 + x10_3)), .int .i64 t234, .int .i64 t235, .int .i64 t236, .int .i64 t237, .slice Ao4006 t238.length co4006, .slice Ao4013 t253.length co4013] (fun k_ => (w.heap.size ≤ k_) ∧ some k_ ≠ (.slice Ao4007 t241.length co4007 : Value).ownBlock ∧ k_ ≠ gb202 ∧ k_ ≠ gb244) (fun k_ => ((fun k_ => (w.heap.size ≤ k_) ∧ some k_ ≠ (.slice Ao4007 t241.length co4007 : Value).ownBlock ∧ k_ ≠ gb202 ∧ k_ ≠ gb244)) k_ ∧ some k_ ≠ (u9 : Value).ownBlock) rfl rfl ?aP (fun _ hk => hk) ?aF ?aO ?aB ?aS ?aL ?_; (case aP => exact (k29_mkF _ _ (⟨t229, t230, t231, t232, wrap64 (a0_4 + x10_3), t234, t235, t236, t237, t238, t253⟩ : S29) (Kd.R_reads' (Kd.R_mono (ok' := (fun k_ => ((fun k_ => (w.heap.size ≤ k_) ∧ some k_ ≠ (.slice Ao4007 t241.length co4007 : Value).ownBlock ∧ k_ ≠ gb202 ∧ k_ ≠ gb244)) k_ ∧ some k_ ≠ (u9 : Value).ownBlock)) (Kd.R_types (Kd.R_types (Kd.R_apart' (HO240.out) (Kd.N_typed HO_9.out) (by decide)) BK202.out (by decide)) BK244.out (by decide)) (fun k_ hk => ⟨⟨hk.1.1.1.1, ⟨hk.1.1.1.2.1, ⟨hk.1.2, hk.2⟩⟩⟩, hk.1.1.2⟩))).2.1 (Kd.R_F (Kd.R_mono (ok' := (fun k_ => ((fun k_ => (w.heap.size ≤ k_) ∧ some k_ ≠ (.slice Ao4007 t241.length co4007 : Value).ownBlock ∧ k_ ≠ gb202 ∧ k_ ≠ gb244)) k_ ∧ some k_ ≠ (u9 : Value).ownBlock)) (Kd.R_types (Kd.R_types (Kd.R_apart' (HO240.out) (Kd.N_typed HO_9.out) (by decide)) BK202.out (by decide)) BK244.out (by decide)) (fun k_ hk => ⟨⟨hk.1.1.1.1, ⟨hk.1.1.1.2.1, ⟨hk.1.2, hk.2⟩⟩⟩, hk.1.1.2⟩))) (Kd.R_reads' (Kd.R_mono (ok' := (fun k_ => ((fun k_ => (w.heap.size ≤ k_) ∧ some k_ ≠ (.slice Ao4007 t241.length co4007 : Value).ownBlock ∧ k_ ≠ gb202 ∧ k_ ≠ gb244)) k_ ∧ some k_ ≠ (u9 : Value).ownBlock)) (Kd.R_types (Kd.R_types (Kd.R_apart' (HO255.out) (Kd.N_typed HO_9.out) (by decide)) BK202.out (by decide)) BK244.out (by decide)) (fun k_ hk => ⟨⟨hk.1.1.1.1, ⟨hk.1.1.1.2.2, ⟨hk.1.2, hk.2⟩⟩⟩, hk.1.1.2⟩))).2.1 (Kd.R_F (Kd.R_mono (ok' := (fun k_ => ((fun k_ => (w.heap.size ≤ k_) ∧ some k_ ≠ (.slice Ao4007 t241.length co4007 : Value).ownBlock ∧ k_ ≠ gb202 ∧ k_ ≠ gb244)) k_ ∧ some k_ ≠ (u9 : Value).ownBlock)) (Kd.R_types (Kd.R_types (Kd.R_apart' (HO255.out) (Kd.N_typed HO_9.out) (by decide)) BK202.out (by decide)) BK244.out (by decide)) (fun k_ hk => ⟨⟨hk.1.1.1.1, ⟨hk.1.1.1.2.2, ⟨hk.1.2, hk.2⟩⟩⟩, hk.1.1.2⟩))))); (case aB => exact wB); (case aF => exact (fun k_ hk => ⟨(Nat.le_trans (below_size wB) hk), Kd.fresh' (Kd.R_lt (Rh HO243)) k_ hk, Kd.freshB (Bh BK202) k_ hk, Kd.freshB (Bh BK244) k_ hk⟩)); (case aO => exact (by (with_reducible repeat (first | apply Kd.N_alloc | apply Kd.N_drewN | apply Kd.N_drew)); exact Kd.N_mono HO_9.out (fun _ hk => ⟨hk.1, ⟨hk.2.2.1, ⟨hk.2.2.2.2.1, hk.2.2.2.2.2⟩⟩⟩))); (case aS => exact (below_size wB)); (case aL => have := LMc3014.out; omega); intro v257 w4017 ho hb hg hat; rw [← Ny256.out] at ho; have n0_ := Aside0.mk (blk_grown (Bh BK202) hg (Kd.N_away HO_9.out (fun _ hk => hk.2.2.2.2.1))); have n1_ := Aside0.mk (Kd.R_over' (Rh HO243) (Kd.N_typed (by (with_reducible repeat (first | apply Kd.N_alloc | apply Kd.N_drewN | apply Kd.N_drew)); exact HO_9.out)) (by decide) hg); have n2_ := Aside0.mk (blk_grown (Bh BK244) hg (Kd.N_away HO_9.out (fun _ hk => hk.2.2.2.2.2))); have n3_ := Aside0.mk (hb); have n4_ := Aside0.mk (ho); clear BK202; clear HO243; clear BK244; clear HB; clear HO_9; clear HO240; clear HO255; have BK202 := n0_; have HO243 := n1_; have BK244 := n2_; have HB := n3_; have HO258 := n4_; clear n0_ n1_ n2_ n3_ n4_; clear ho hb hg hat))
 go_roundg k3
 case measure => have := HJ3.out; have := HJ1009.out; have := HK3.out; omega
 case rel => exact ⟨(y256), (wrap64 (x10_3 + (wrap64 ((wrap64 (Int.tdiv (wrap64 ((wrap64 (a1 - 20)) - (l0_9.length : Int))) 8)) * 8)))), (by first | rfl | (simp; done) | (simp [*]; done)), H', ⟨by have := HJ3.out; have := HJ1009.out; have := HK3.out; omega⟩, ⟨by (with_reducible repeat (first | apply Kd.N_alloc | apply Kd.N_drewN | apply Kd.N_drew)); exact Kd.N_mono HO258.out (fun _ hk => ⟨hk.1, hk.2.2.1⟩)⟩, ⟨Bh BK202⟩, ⟨wB⟩⟩
 }
 {
 go_wp2
 go_ret2
 exact ⟨_, by first | rfl | (simp [errW_none, errW_some] <;> rfl) | (simp [*, errW_none, errW_some] <;> rfl), by (with_reducible repeat (first | apply Kd.N_alloc | apply Kd.N_drewN | apply Kd.N_drew)); exact Kd.N_mono HO_9.out (fun _ hk => hk.1), wB⟩
 }
 }
 )
 }
 }
 )
 }
 }
 }
 )

end Go.Proofs.Ytcapkpbjppenpaa.PFnExactFragment
