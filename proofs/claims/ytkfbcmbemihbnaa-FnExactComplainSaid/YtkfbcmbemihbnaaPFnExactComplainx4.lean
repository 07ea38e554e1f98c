-- Written for this claim by a program of this session (wip/mkprint.py: the print, turned at a few places). Not trusted: Lean checks it.
import Derived.Test.YtkfbcmbemihbnaaPFnExactComplainx0
import Derived.Test.YtkfbcmbemihbnaaPFnExactComplainx1
import Derived.Test.YtkfbcmbemihbnaaPFnExactComplainx2
import Derived.Test.YtkfbcmbemihbnaaPFnExactComplainx3
namespace Go.Proofs.Ytkfbcmbemihbnaa.PFnExactComplain
open Go.RowKit Go.Proofs.YtkfbcmbemihbnaaW.PrintWords Go.Proofs.YtkfbcmbemihbnaaW.PrintLast Go.Proofs.YtkfbcmbemihbnaaW.PrintMore
attribute [local go_sem] max2_int min2_int max_two min_two max_three min_three max_four min_four   -- for this text's walks alone
set_option linter.unusedVariables false
set_option linter.unusedSimpArgs false

/-! ### spec_EncodeIP: function 113 -/
def spec_EncodeIP.j0 : Nat → Bool → Int → Int → Bool → Bool → Int → Int → Int → Int → Int → List Int → List Int → Option (List Int × Int)
  | 0, _, _, _, _, _, _, _, _, _, _, _, _ => none
  | k + 1, x24, x201000, x201001, x201002, x201003, x201004, x201005, x201006, x201007, x201008, x201009, x201010 => if x24 = true then (some (([] : List Int), 7)) else ((spec_l05Head.f k x201000 x201001 x201002 x201003 x201004 x201005 x201006 x201007 x201008 x201009 x201010).bind fun t202 => ((spec_l01Join.f k t202 x201010).bind fun t205 => (some (t205, 0))))
def spec_EncodeIP.f (k : Nat) (a0_0 : Int) (a0_1 : Int) (a0_2 : Bool) (a0_3 : Bool) (a0_4 : Int) (a0_5 : Int) (a0_6 : Int) (a0_7 : Int) (a0_8 : Int) (l0_9 : List Int) (l0_10 : List Int) : Option (List Int × Int) := (spec_l05OK.f a0_0 a0_1 a0_2 a0_3 a0_4 a0_5 a0_6 a0_7 a0_8 l0_9 l0_10).bind fun t201 => (if t201 = true then (if (wrap64 ((wrap64 (20 + (l0_9.length : Int))) + (l0_10.length : Int))) > 65535 then (spec_EncodeIP.j0 k true a0_0 a0_1 a0_2 a0_3 a0_4 a0_5 a0_6 a0_7 a0_8 l0_9 l0_10) else (spec_EncodeIP.j0 k (decide ((wrap64 (a0_4 + (l0_10.length : Int))) > 65535)) a0_0 a0_1 a0_2 a0_3 a0_4 a0_5 a0_6 a0_7 a0_8 l0_9 l0_10)) else (some (([] : List Int), 1)))
theorem spec_EncodeIP.mono_l : ∀ k, (∀ y0 y1 y2 y3 y4 y5 y6 y7 y8 y9 y10 y11, LeO (spec_EncodeIP.j0 k y0 y1 y2 y3 y4 y5 y6 y7 y8 y9 y10 y11) (spec_EncodeIP.j0 (k + 1) y0 y1 y2 y3 y4 y5 y6 y7 y8 y9 y10 y11))
  | 0 => fun _ _ _ _ _ _ _ _ _ _ _ _ r h => by simp [spec_EncodeIP.j0] at h
  | k + 1 => by
    have ih0 := spec_EncodeIP.mono_l k
    · intro y0 y1 y2 y3 y4 y5 y6 y7 y8 y9 y10 y11
      unfold spec_EncodeIP.j0
      repeat' first
      | (with_reducible exact ih0 _ _ _ _ _ _ _ _ _ _ _ _)
      | (with_reducible exact spec_l01Join.mono _ _ _)
      | (with_reducible exact spec_l05Head.mono _ _ _ _ _ _ _ _ _ _ _ _)
      | (with_reducible exact LeO.refl _)
      | (with_reducible exact LeO.none _)
      | (with_reducible refine LeO.ite ?_ ?_)
      | (with_reducible refine LeO.bind ?_ (fun _ => ?_))
      | exact ih0 _ _ _ _ _ _ _ _ _ _ _ _
      | exact spec_l01Join.mono _ _ _
      | exact spec_l05Head.mono _ _ _ _ _ _ _ _ _ _ _ _
      | exact LeO.none _
      | refine LeO.ite ?_ ?_
      | refine LeO.bind ?_ (fun _ => ?_)
theorem spec_EncodeIP.mono : ∀ a0 a1 a2 a3 a4 a5 a6 a7 a8 a9 a10 k, LeO (spec_EncodeIP.f k a0 a1 a2 a3 a4 a5 a6 a7 a8 a9 a10) (spec_EncodeIP.f (k + 1) a0 a1 a2 a3 a4 a5 a6 a7 a8 a9 a10) := by
 intro a0 a1 a2 a3 a4 a5 a6 a7 a8 a9 a10 k
 have ih0 := spec_EncodeIP.mono_l k
 unfold spec_EncodeIP.f
 repeat' first
     | (with_reducible exact ih0 _ _ _ _ _ _ _ _ _ _ _ _)
     | (with_reducible exact spec_l01Join.mono _ _ _)
     | (with_reducible exact spec_l05Head.mono _ _ _ _ _ _ _ _ _ _ _ _)
     | (with_reducible exact LeO.refl _)
     | (with_reducible exact LeO.none _)
     | (with_reducible refine LeO.ite ?_ ?_)
     | (with_reducible refine LeO.bind ?_ (fun _ => ?_))
     | exact ih0 _ _ _ _ _ _ _ _ _ _ _ _
     | exact spec_l01Join.mono _ _ _
     | exact spec_l05Head.mono _ _ _ _ _ _ _ _ _ _ _ _
     | exact LeO.none _
     | refine LeO.ite ?_ ?_
     | refine LeO.bind ?_ (fun _ => ?_)
set_option maxHeartbeats 60000000 in
set_option maxRecDepth 100000 in
theorem spec_EncodeIP.calls (k : Nat) (a0_0 : Int) (a0_1 : Int) (a0_2 : Bool) (a0_3 : Bool) (a0_4 : Int) (a0_5 : Int) (a0_6 : Int) (a0_7 : Int) (a0_8 : Int) (A0_9 : Option Addr) (c0_9 : Nat) (l0_9 : List Int) (A0_10 : Option Addr) (c0_10 : Nat) (l0_10 : List Int) (r1 : List Int) (r2 : Int) (w : World) (hr0_9 : Kd.C (Kd.int .u8) w A0_9 l0_9.length l0_9) (hc0_9 : l0_9.length ≤ c0_9) (hr0_10 : Kd.C (Kd.int .u8) w A0_10 l0_10.length l0_10) (hc0_10 : l0_10.length ≤ c0_10) (h : spec_EncodeIP.f k a0_0 a0_1 a0_2 a0_3 a0_4 a0_5 a0_6 a0_7 a0_8 l0_9 l0_10 = some (r1, r2)) :
 Calls Try.prog 113 #[.agg #[.int .i64 a0_0, .int .i64 a0_1, .bool a0_2, .bool a0_3, .int .i64 a0_4, .int .i64 a0_5, .int .i64 a0_6, .int .i64 a0_7, .int .i64 a0_8, .slice A0_9 l0_9.length c0_9, .slice A0_10 l0_10.length c0_10]] w fun e w' => ∃ v0_ : Value, e = .returned (.tuple #[v0_, .int .i64 r2]) ∧ Kd.R (Kd.int .u8) 5 w' w.heap.size (fun _ => True) v0_ r1 ∧ Below w.heap.size w w' := by
 have hu51 := Try.underlying51
 have HR0_9 := Aside0.mk hr0_9
 have HC0_9 := Aside0.mk hc0_9
 clear hr0_9 hc0_9
 have HR0_10 := Aside0.mk hr0_10
 have HC0_10 := Aside0.mk hc0_10
 clear hr0_10 hc0_10
 have HB := Aside0.mk (Below.refl w.heap.size w)
 have H : ((spec_l05OK.f a0_0 a0_1 a0_2 a0_3 a0_4 a0_5 a0_6 a0_7 a0_8 l0_9 l0_10).bind fun t201 => (if t201 = true then (if (wrap64 ((wrap64 (20 + (l0_9.length : Int))) + (l0_10.length : Int))) > 65535 then (spec_EncodeIP.j0 k true a0_0 a0_1 a0_2 a0_3 a0_4 a0_5 a0_6 a0_7 a0_8 l0_9 l0_10) else (spec_EncodeIP.j0 k (decide ((wrap64 (a0_4 + (l0_10.length : Int))) > 65535)) a0_0 a0_1 a0_2 a0_3 a0_4 a0_5 a0_6 a0_7 a0_8 l0_9 l0_10)) else (some (([] : List Int), 1)))) = some (r1, r2) := h
 clear h
 replace H := Option.bind_eq_some_iff.mp H
 obtain ⟨t201, A20, H⟩ := H
 replace H : (if t201 = true then (if (wrap64 ((wrap64 (20 + (l0_9.length : Int))) + (l0_10.length : Int))) > 65535 then (spec_EncodeIP.j0 k true a0_0 a0_1 a0_2 a0_3 a0_4 a0_5 a0_6 a0_7 a0_8 l0_9 l0_10) else (spec_EncodeIP.j0 k (decide ((wrap64 (a0_4 + (l0_10.length : Int))) > 65535)) a0_0 a0_1 a0_2 a0_3 a0_4 a0_5 a0_6 a0_7 a0_8 l0_9 l0_10)) else (some (([] : List Int), 1))) = some (r1, r2) := H
 have A2 := Aside0.mk A20
 clear A20
 by_cases c3 : t201 = true
 {
 subst c3
 have H1 : (if (wrap64 ((wrap64 (20 + (l0_9.length : Int))) + (l0_10.length : Int))) > 65535 then (spec_EncodeIP.j0 k true a0_0 a0_1 a0_2 a0_3 a0_4 a0_5 a0_6 a0_7 a0_8 l0_9 l0_10) else (spec_EncodeIP.j0 k (decide ((wrap64 (a0_4 + (l0_10.length : Int))) > 65535)) a0_0 a0_1 a0_2 a0_3 a0_4 a0_5 a0_6 a0_7 a0_8 l0_9 l0_10)) = some (r1, r2) := by rw [if_pos rfl] at H; exact H
 clear H
 have H := H1
 clear H1
 have HC4 := Aside0.mk H
 clear H
 go_enter Try.func113, Try.ntmps113
 go_upto_region 3 with (first | ((with_reducible refine gate_dst (N := 1) rfl ?_); (try (refine gate_guard (by rfl) ?_; dsimp only)); refine box_event ?hg (N := 1) ?hd (cs := #[.int .i64 a0_0, .int .i64 a0_1, .bool a0_2, .bool a0_3, .int .i64 a0_4, .int .i64 a0_5, .int .i64 a0_6, .int .i64 a0_7, .int .i64 a0_8, .slice A0_9 l0_9.length c0_9, .slice A0_10 l0_10.length c0_10]) (t := 51) ?hr ?_; (case hd => rfl); (case hg => rfl); (case hr => first | (go_simp; done) | (go_simp; rfl)); intro gb200 hg w1001 hbox hb; have n0_ := Aside0.mk (below_step wB hb); have n1_ := Aside0.mk (hbox); have n2_ := Aside0.mk ((by rw [hg]; exact (below_size wB) : w.heap.size ≤ gb200)); have n3_ := Aside0.mk ((by rw [hg]; exact (below_size wB) : w.heap.size ≤ gb200)); clear HB; have HB := n0_; have BK200 := n1_; have GW200 := n2_; have GE200 := n3_; clear n0_ n1_ n2_ n3_; clear hb hbox hg; obtain ⟨⟨hcz1002_0, hcz1002_1, hcz1002_2, hcz1002_3, hcz1002_4, hcz1002_5, hcz1002_6, hcz1002_7, hcz1002_8, hcz1002_9, hcz1002_10⟩, hfz1002_0, hfz1002_1, hfz1002_2, hfz1002_3, hfz1002_4, hfz1002_5, hfz1002_6, hfz1002_7, hfz1002_8, hfz1002_9, hfz1002_10⟩ := cells11 BK200.out) | ((with_reducible refine gate_callee (f := 143) rfl ?_); refine goesL_ (some 5) rfl rfl Try.func143 (by kernel_rfl) rfl #[.agg #[.int .i64 a0_0, .int .i64 a0_1, .bool a0_2, .bool a0_3, .int .i64 a0_4, .int .i64 a0_5, .int .i64 a0_6, .int .i64 a0_7, .int .i64 a0_8, .slice A0_9 l0_9.length c0_9, .slice A0_10 l0_10.length c0_10]] rfl wT ?_; (with_reducible refine (spec_l05OK.calls a0_0 a0_1 a0_2 a0_3 a0_4 a0_5 a0_6 a0_7 a0_8 _ _ l0_9 _ _ l0_10 true _ ?side1 ?side2 ?side3 ?side4 A2.out).mono ?_); (case side1 => exact Kd.C_below HR0_9.out wB); (case side2 => exact HC0_9.out); (case side3 => exact Kd.C_below HR0_10.out wB); (case side4 => exact HC0_10.out); rintro e w1003 ⟨rfl, hb⟩; refine ⟨_, rfl, ?_⟩; have n0_ := Aside0.mk (blk_below (Bh BK200) hb); have n1_ := Aside0.mk (below_step wB hb); clear BK200; clear HB; have BK200 := n0_; have HB := n1_; clear n0_ n1_; (try clear hb); (try clear hb2); (try clear hk); (try clear hi)))
 (try simp only [Act.put, List.setIfInBounds_toArray, List.set_cons_zero, List.set_cons_succ])
 go_cut [24] (fun v24 wc => ∃ (kq : Nat) (x24_3 : Bool), v24 = .bool x24_3 ∧ Aside0 (spec_EncodeIP.j0 kq x24_3 a0_0 a0_1 a0_2 a0_3 a0_4 a0_5 a0_6 a0_7 a0_8 l0_9 l0_10 = some (r1, r2)) ∧ Aside0 (kq ≤ k) ∧ Aside0 (wc.heap[gb200]? = some (.cells #[.int .i64 a0_0, .int .i64 a0_1, .bool a0_2, .bool a0_3, .int .i64 a0_4, .int .i64 a0_5, .int .i64 a0_6, .int .i64 a0_7, .int .i64 a0_8, (.slice A0_9 l0_9.length c0_9), (.slice A0_10 l0_10.length c0_10)] 51 (0, 0))) ∧ Aside0 (Below w.heap.size w wc))
 case first => (
 have H := HC4.out
 clear HC4
 by_cases c1004 : (wrap64 ((wrap64 (20 + (l0_9.length : Int))) + (l0_10.length : Int))) > 65535
 {
 rw [if_pos c1004] at H
 have c1004b0 : decide (65535 < (wrap64 ((wrap64 (20 + (l0_9.length : Int))) + (l0_10.length : Int)))) = true := decide_eq_true c1004
 clear c1004
 (first | rw [c1004b0] | rw [c1004b1] | (simp only [i64_w, i32_w]; rw [c1004b0]) | skip)
 have H' := Aside0.mk H
 clear H
 obtain ⟨⟨hcz2001_0, hcz2001_1, hcz2001_2, hcz2001_3, hcz2001_4, hcz2001_5, hcz2001_6, hcz2001_7, hcz2001_8, hcz2001_9, hcz2001_10⟩, hfz2001_0, hfz2001_1, hfz2001_2, hfz2001_3, hfz2001_4, hfz2001_5, hfz2001_6, hfz2001_7, hfz2001_8, hfz2001_9, hfz2001_10⟩ := cells11 BK200.out
 go_wp2
 go_meet
 case rel => exact ⟨_, (true), (by first | rfl | (simp; done) | (simp [*]; done)), H', ⟨by first | omega | exact Nat.le_refl _⟩, ⟨Bh BK200⟩, ⟨wB⟩⟩
 }
 {
 rw [if_neg c1004] at H
 have c1004b0 : decide (65535 < (wrap64 ((wrap64 (20 + (l0_9.length : Int))) + (l0_10.length : Int)))) = false := decide_eq_false c1004
 clear c1004
 (first | rw [c1004b0] | rw [c1004b1] | (simp only [i64_w, i32_w]; rw [c1004b0]) | skip)
 have H' := Aside0.mk H
 clear H
 obtain ⟨⟨hcz2001_0, hcz2001_1, hcz2001_2, hcz2001_3, hcz2001_4, hcz2001_5, hcz2001_6, hcz2001_7, hcz2001_8, hcz2001_9, hcz2001_10⟩, hfz2001_0, hfz2001_1, hfz2001_2, hfz2001_3, hfz2001_4, hfz2001_5, hfz2001_6, hfz2001_7, hfz2001_8, hfz2001_9, hfz2001_10⟩ := cells11 BK200.out
 go_wp2
 go_meet
 case rel => exact ⟨_, (decide ((wrap64 (a0_4 + (l0_10.length : Int))) > 65535)), (by first | rfl | (simp; done) | (simp [*]; done)), H', ⟨by first | omega | exact Nat.le_refl _⟩, ⟨Bh BK200⟩, ⟨wB⟩⟩
 }
 )
 case rest => (
 clear HC4
 try clear c0
 try clear c3
 try clear c1004
 try clear c1004b0
 try clear c1004b1
 try clear hcz1002_0 hcz1002_1 hcz1002_10 hcz1002_2 hcz1002_3 hcz1002_4 hcz1002_5 hcz1002_6 hcz1002_7 hcz1002_8 hcz1002_9 hfz1002_0 hfz1002_1 hfz1002_10 hfz1002_2 hfz1002_3 hfz1002_4 hfz1002_5 hfz1002_6 hfz1002_7 hfz1002_8 hfz1002_9
 try clear hcz2001_0 hcz2001_1 hcz2001_10 hcz2001_2 hcz2001_3 hcz2001_4 hcz2001_5 hcz2001_6 hcz2001_7 hcz2001_8 hcz2001_9 hfz2001_0 hfz2001_1 hfz2001_10 hfz2001_2 hfz2001_3 hfz2001_4 hfz2001_5 hfz2001_6 hfz2001_7 hfz2001_8 hfz2001_9
 obtain ⟨kq, x24_3, rfl, HA, HJ3, BK200, HB⟩ := hcut
 cases kq with
 | zero => exact absurd HA.out (by simp [spec_EncodeIP.j0])
 | succ kj3 => {
 have H := HA.out
 clear HA
 simp only [spec_EncodeIP.j0] at H
 by_cases c1005 : x24_3 = true
 {
 subst c1005
 have H1 : (some (([] : List Int), 7)) = some (r1, r2) := by rw [if_pos rfl] at H; exact H
 clear H
 have H := H1
 clear H1
 simp only [Option.some.injEq, Prod.mk.injEq] at H
 obtain ⟨rfl, rfl⟩ := H
 go_wp2
 go_ret2
 exact ⟨_, by first | rfl | (simp [errW_none, errW_some] <;> rfl) | (simp [*, errW_none, errW_some] <;> rfl), by first | exact Kd.R_nil _ _ _ _ _ | exact Kd.N_nil _ _ _ _ _ | exact Kd.V_nil _ _ _ _ _ | exact Kd.Q_nil _ _ _ _ _ | exact Kd.S_nil _ _ _ _ _, wB⟩
 }
 {
 replace c1005 := Bool.eq_false_iff.mpr c1005
 subst c1005
 have H1 : ((spec_l05Head.f kj3 a0_0 a0_1 a0_2 a0_3 a0_4 a0_5 a0_6 a0_7 a0_8 l0_9 l0_10).bind fun t202 => ((spec_l01Join.f kj3 t202 l0_10).bind fun t205 => (some (t205, 0)))) = some (r1, r2) := by rw [if_neg (show ¬ (false = true) by decide)] at H; exact H
 clear H
 have H := H1
 clear H1
 replace H := Option.bind_eq_some_iff.mp H
 obtain ⟨t202, A10060, H⟩ := H
 replace H : ((spec_l01Join.f kj3 t202 l0_10).bind fun t205 => (some (t205, 0))) = some (r1, r2) := H
 have A1006 := Aside0.mk A10060
 clear A10060
 replace H := Option.bind_eq_some_iff.mp H
 obtain ⟨t205, A10070, H⟩ := H
 replace H : (some (t205, 0)) = some (r1, r2) := H
 have A1007 := Aside0.mk A10070
 clear A10070
 simp only [Option.some.injEq, Prod.mk.injEq] at H
 obtain ⟨rfl, rfl⟩ := H
 try go_wp2
 have n0_ := Aside0.mk (blk_drew BK200.out)
 have n1_ := Aside0.mk (below_drew1 HB.out)
 clear BK200
 clear HB
 have BK200 := n0_
 have HB := n1_
 clear n0_ n1_
 refine start_ (n := 7) (S := fun w' => w'.cell? ⟨gb200, 0, none⟩ = some (.int .i64 a0_0) ∧ w'.cell? ⟨gb200, 1, none⟩ = some (.int .i64 a0_1) ∧ w'.cell? ⟨gb200, 2, none⟩ = some (.bool a0_2) ∧ w'.cell? ⟨gb200, 3, none⟩ = some (.bool a0_3) ∧ w'.cell? ⟨gb200, 4, none⟩ = some (.int .i64 a0_4) ∧ w'.cell? ⟨gb200, 5, none⟩ = some (.int .i64 a0_5) ∧ w'.cell? ⟨gb200, 6, none⟩ = some (.int .i64 a0_6) ∧ w'.cell? ⟨gb200, 7, none⟩ = some (.int .i64 a0_7) ∧ w'.cell? ⟨gb200, 8, none⟩ = some (.int .i64 a0_8) ∧ w'.cell? ⟨gb200, 9, none⟩ = some (.slice A0_9 l0_9.length c0_9) ∧ w'.cell? ⟨gb200, 10, none⟩ = some (.slice A0_10 l0_10.length c0_10)) (ds := []) #[false, false, false, false, false, false, false] (by kernel_rfl) rfl rfl ⟨(blk_cell BK200.out 0).trans rfl, (blk_cell BK200.out 1).trans rfl, (blk_cell BK200.out 2).trans rfl, (blk_cell BK200.out 3).trans rfl, (blk_cell BK200.out 4).trans rfl, (blk_cell BK200.out 5).trans rfl, (blk_cell BK200.out 6).trans rfl, (blk_cell BK200.out 7).trans rfl, (blk_cell BK200.out 8).trans rfl, (blk_cell BK200.out 9).trans rfl, (blk_cell BK200.out 10).trans rfl⟩ (fun hHeld => ?_)
 generalize wc.drew = w2001 at BK200 HB hHeld ⊢
 refine pure_ (i := 2) (N := some 27) (v := ?_) (a' := ?_) #[false, false, true, false, false, false, false] rfl rfl (by kernel_rfl) (fun _ _ _ h => h) (Or.inl ⟨by rfl, ?_⟩) ?_ ?_
 rotate_left
 {
 intro w'
 go_simp
 with_reducible rfl
 }
 rotate_left
 {
 simp only [Act.put, List.setIfInBounds_toArray, List.set_cons_zero, List.set_cons_succ, i64_w, i32_w]
 rfl
 }
 refine take_ (i := 0) (N := some 25) (v := ?_) (a' := ?_) #[true, false, true, false, false, false, false] rfl rfl (by kernel_rfl) (fun _ _ _ h => h) (Or.inl ⟨by rfl, ?_⟩) hHeld ?_ ?_
 rotate_left
 {
 rintro w' ⟨s0, s1, s2, s3, s4, s5, s6, s7, s8, s9, s10⟩
 go_simp
 with_reducible rfl
 }
 rotate_left
 {
 simp only [Act.put, List.setIfInBounds_toArray, List.set_cons_zero, List.set_cons_succ, i64_w, i32_w]
 rfl
 }
 refine take_ (i := 3) (N := some 28) (v := ?_) (a' := ?_) #[true, false, true, true, false, false, false] rfl rfl (by kernel_rfl) (fun _ _ _ h => h) (Or.inl ⟨by rfl, ?_⟩) hHeld ?_ ?_
 rotate_left
 {
 rintro w' ⟨s0, s1, s2, s3, s4, s5, s6, s7, s8, s9, s10⟩
 go_simp
 with_reducible rfl
 }
 rotate_left
 {
 simp only [Act.put, List.setIfInBounds_toArray, List.set_cons_zero, List.set_cons_succ, i64_w, i32_w]
 rfl
 }
 refine one_ (i := 1) (N := some 26) #[true, true, true, true, false, false, false] rfl rfl (by kernel_rfl) (by decide) (fun K hK => ?_)
 refine goes_ Try.func145 (by kernel_rfl) rfl #[.agg #[.int .i64 a0_0, .int .i64 a0_1, .bool a0_2, .bool a0_3, .int .i64 a0_4, .int .i64 a0_5, .int .i64 a0_6, .int .i64 a0_7, .int .i64 a0_8, .slice A0_9 l0_9.length c0_9, .slice A0_10 l0_10.length c0_10]] (by rfl) rfl rfl wT ?_
 with_reducible refine (spec_l05Head.calls kj3 a0_0 a0_1 a0_2 a0_3 a0_4 a0_5 a0_6 a0_7 a0_8 _ _ l0_9 _ _ l0_10 t202 _ ?side1 ?side2 ?side3 ?side4 A1006.out).mono ?_
 (case side1 => exact Kd.C_below HR0_9.out wB)
 (case side2 => exact HC0_9.out)
 (case side3 => exact Kd.C_below HR0_10.out wB)
 (case side4 => exact HC0_10.out)
 rintro e w2002 ⟨v203, rfl, ho0, hb⟩
 refine ⟨_, rfl, ?_⟩
 have n0_ := Aside0.mk (Kd.R_lower ho0 (below_size wB))
 have n1_ := Aside0.mk (blk_below (Bh BK200) hb)
 have n2_ := Aside0.mk (below_step wB hb)
 clear BK200
 clear HB
 have HO204 := n0_
 have BK200 := n1_
 have HB := n2_
 clear n0_ n1_ n2_
 (try clear hb)
 (try clear hb2)
 (try clear hk)
 (try clear hi)
 (try clear ho0)
 obtain ⟨Ao2003, co2003, eo2003⟩ := Kd.R_slice HO204.out
 (first | subst eo2003 | (injection eo2003 with f1_ f2_ f3_; have f4_ := f1_.symm; have f5_ := f3_.symm; clear f1_ f2_ f3_; subst f4_; subst f5_))
 refine hK.out _ _ ⟨(blk_cell BK200.out 0).trans rfl, (blk_cell BK200.out 1).trans rfl, (blk_cell BK200.out 2).trans rfl, (blk_cell BK200.out 3).trans rfl, (blk_cell BK200.out 4).trans rfl, (blk_cell BK200.out 5).trans rfl, (blk_cell BK200.out 6).trans rfl, (blk_cell BK200.out 7).trans rfl, (blk_cell BK200.out 8).trans rfl, (blk_cell BK200.out 9).trans rfl, (blk_cell BK200.out 10).trans rfl⟩ (fun hHeld => ?_)
 clear hK K
 refine norm_ (a' := ?_) ?_ ?_
 rotate_left
 {
 show Act.put _ (some 26) _ = _
 simp only [Act.put, List.setIfInBounds_toArray, List.set_cons_zero, List.set_cons_succ, i64_w, i32_w]
 rfl
 }
 refine one_ (i := 4) (N := some 29) #[true, true, true, true, true, false, false] rfl rfl (by kernel_rfl) (by decide) (fun K hK => ?_)
 refine goes_ Try.func144 (by kernel_rfl) rfl #[.slice Ao2003 t202.length co2003, .slice A0_10 l0_10.length c0_10] (by rfl) rfl rfl wT ?_
 with_reducible refine (spec_l01Join.calls kj3 _ _ t202 _ _ l0_10 t205 _ ?side1 ?side2 ?side3 ?side4 A1007.out).mono ?_
 (case side1 => exact Ch HO204)
 (case side2 => exact (Kd.R_reads' HO204.out).2.1)
 (case side3 => exact Kd.C_below HR0_10.out wB)
 (case side4 => exact HC0_10.out)
 rintro e w2004 ⟨v206, rfl, ho0, hb⟩
 refine ⟨_, rfl, ?_⟩
 have n0_ := Aside0.mk (Kd.R_elder' (Rh HO204) (Kd.R_base ho0) hb)
 have n1_ := Aside0.mk (Kd.R_lower (Kd.R_new' ho0 (Kd.R_lt (Rh HO204))) (below_size wB))
 have n2_ := Aside0.mk (blk_below (Bh BK200) hb)
 have n3_ := Aside0.mk (below_step wB hb)
 clear HO204
 clear BK200
 clear HB
 have HO204 := n0_
 have HO207 := n1_
 have BK200 := n2_
 have HB := n3_
 clear n0_ n1_ n2_ n3_
 (try clear hb)
 (try clear hb2)
 (try clear hk)
 (try clear hi)
 (try clear ho0)
 refine hK.out _ _ ⟨(blk_cell BK200.out 0).trans rfl, (blk_cell BK200.out 1).trans rfl, (blk_cell BK200.out 2).trans rfl, (blk_cell BK200.out 3).trans rfl, (blk_cell BK200.out 4).trans rfl, (blk_cell BK200.out 5).trans rfl, (blk_cell BK200.out 6).trans rfl, (blk_cell BK200.out 7).trans rfl, (blk_cell BK200.out 8).trans rfl, (blk_cell BK200.out 9).trans rfl, (blk_cell BK200.out 10).trans rfl⟩ (fun hHeld => ?_)
 clear hK K
 refine norm_ (a' := ?_) ?_ ?_
 rotate_left
 {
 show Act.put _ (some 29) _ = _
 simp only [Act.put, List.setIfInBounds_toArray, List.set_cons_zero, List.set_cons_succ, i64_w, i32_w]
 rfl
 }
 refine pure_ (i := 5) (N := some 2) (v := ?_) (a' := ?_) #[true, true, true, true, true, true, false] rfl rfl (by kernel_rfl) (fun _ _ _ h => h) (Or.inl ⟨by rfl, ?_⟩) ?_ ?_
 rotate_left
 {
 intro w'
 go_simp
 with_reducible rfl
 }
 rotate_left
 {
 simp only [Act.put, List.setIfInBounds_toArray, List.set_cons_zero, List.set_cons_succ, i64_w, i32_w]
 rfl
 }
 refine pure_ (i := 6) (N := some 3) (v := ?_) (a' := ?_) #[true, true, true, true, true, true, true] rfl rfl (by kernel_rfl) (fun _ _ _ h => h) (Or.inl ⟨by rfl, ?_⟩) ?_ ?_
 rotate_left
 {
 intro w'
 go_simp
 with_reducible rfl
 }
 rotate_left
 {
 simp only [Act.put, List.setIfInBounds_toArray, List.set_cons_zero, List.set_cons_succ, i64_w, i32_w]
 rfl
 }
 refine done_ (by kernel_rfl) ?_
 try go_wp2
 go_ret2
 exact ⟨_, by first | rfl | (simp [errW_none, errW_some] <;> rfl) | (simp [*, errW_none, errW_some] <;> rfl), Kd.R_mono (Rh HO207) (fun _ hk => trivial), wB⟩
 }
 }
 )
 }
 {
 replace c3 := Bool.eq_false_iff.mpr c3
 subst c3
 have H1 : (some (([] : List Int), 1)) = some (r1, r2) := by rw [if_neg (show ¬ (false = true) by decide)] at H; exact H
 clear H
 have H := H1
 clear H1
 simp only [Option.some.injEq, Prod.mk.injEq] at H
 obtain ⟨rfl, rfl⟩ := H
 go_enter Try.func113, Try.ntmps113
 go_wp2_with (first | ((with_reducible refine gate_dst (N := 1) rfl ?_); (try (refine gate_guard (by rfl) ?_; dsimp only)); refine box_event ?hg (N := 1) ?hd (cs := #[.int .i64 a0_0, .int .i64 a0_1, .bool a0_2, .bool a0_3, .int .i64 a0_4, .int .i64 a0_5, .int .i64 a0_6, .int .i64 a0_7, .int .i64 a0_8, .slice A0_9 l0_9.length c0_9, .slice A0_10 l0_10.length c0_10]) (t := 51) ?hr ?_; (case hd => rfl); (case hg => rfl); (case hr => first | (go_simp; done) | (go_simp; rfl)); intro gb200 hg w1001 hbox hb; have n0_ := Aside0.mk (below_step wB hb); have n1_ := Aside0.mk (hbox); have n2_ := Aside0.mk ((by rw [hg]; exact (below_size wB) : w.heap.size ≤ gb200)); have n3_ := Aside0.mk ((by rw [hg]; exact (below_size wB) : w.heap.size ≤ gb200)); clear HB; have HB := n0_; have BK200 := n1_; have GW200 := n2_; have GE200 := n3_; clear n0_ n1_ n2_ n3_; clear hb hbox hg; obtain ⟨⟨hcz1002_0, hcz1002_1, hcz1002_2, hcz1002_3, hcz1002_4, hcz1002_5, hcz1002_6, hcz1002_7, hcz1002_8, hcz1002_9, hcz1002_10⟩, hfz1002_0, hfz1002_1, hfz1002_2, hfz1002_3, hfz1002_4, hfz1002_5, hfz1002_6, hfz1002_7, hfz1002_8, hfz1002_9, hfz1002_10⟩ := cells11 BK200.out) | ((with_reducible refine gate_callee (f := 143) rfl ?_); refine goesL_ (some 5) rfl rfl Try.func143 (by kernel_rfl) rfl #[.agg #[.int .i64 a0_0, .int .i64 a0_1, .bool a0_2, .bool a0_3, .int .i64 a0_4, .int .i64 a0_5, .int .i64 a0_6, .int .i64 a0_7, .int .i64 a0_8, .slice A0_9 l0_9.length c0_9, .slice A0_10 l0_10.length c0_10]] rfl wT ?_; (with_reducible refine (spec_l05OK.calls a0_0 a0_1 a0_2 a0_3 a0_4 a0_5 a0_6 a0_7 a0_8 _ _ l0_9 _ _ l0_10 false _ ?side1 ?side2 ?side3 ?side4 A2.out).mono ?_); (case side1 => exact Kd.C_below HR0_9.out wB); (case side2 => exact HC0_9.out); (case side3 => exact Kd.C_below HR0_10.out wB); (case side4 => exact HC0_10.out); rintro e w1003 ⟨rfl, hb⟩; refine ⟨_, rfl, ?_⟩; have n0_ := Aside0.mk (blk_below (Bh BK200) hb); have n1_ := Aside0.mk (below_step wB hb); clear BK200; clear HB; have BK200 := n0_; have HB := n1_; clear n0_ n1_; (try clear hb); (try clear hb2); (try clear hk); (try clear hi)))
 go_ret2
 exact ⟨_, by first | rfl | (simp [errW_none, errW_some] <;> rfl) | (simp [*, errW_none, errW_some] <;> rfl), by first | exact Kd.R_nil _ _ _ _ _ | exact Kd.N_nil _ _ _ _ _ | exact Kd.V_nil _ _ _ _ _ | exact Kd.Q_nil _ _ _ _ _ | exact Kd.S_nil _ _ _ _ _, wB⟩
 }

/-! ### spec_AddrKind: function 141 -/
def spec_AddrKind.f (a0 : Int) : Option (Int) := (spec_l02AddrOK.f a0).bind fun t208 => (if t208 = true then (if a0 = 0 then (some 1) else (if (a0 / 16777216) = 127 then (some 2) else (if a0 = 4294967295 then (some 4) else (if (a0 / 268435456) = 14 then (some 3) else (if (a0 / 268435456) = 15 then (some 5) else (some 6)))))) else (some 0))
set_option maxHeartbeats 60000000 in
set_option maxRecDepth 100000 in
theorem spec_AddrKind.calls (a0 : Int) (r : Int) (w : World) (h : spec_AddrKind.f a0 = some r) :
 Calls Try.prog 141 #[.int .i64 a0] w fun e w' => e = .returned (.int .i64 r) ∧ Drawn0 w w' := by
 have H : ((spec_l02AddrOK.f a0).bind fun t208 => (if t208 = true then (if a0 = 0 then (some 1) else (if (a0 / 16777216) = 127 then (some 2) else (if a0 = 4294967295 then (some 4) else (if (a0 / 268435456) = 14 then (some 3) else (if (a0 / 268435456) = 15 then (some 5) else (some 6)))))) else (some 0))) = some r := h
 clear h
 replace H := Option.bind_eq_some_iff.mp H
 obtain ⟨t208, A20, H⟩ := H
 replace H : (if t208 = true then (if a0 = 0 then (some 1) else (if (a0 / 16777216) = 127 then (some 2) else (if a0 = 4294967295 then (some 4) else (if (a0 / 268435456) = 14 then (some 3) else (if (a0 / 268435456) = 15 then (some 5) else (some 6)))))) else (some 0)) = some r := H
 have A2 := Aside0.mk A20
 clear A20
 by_cases c3 : t208 = true
 subst c3
 have H1 : (if a0 = 0 then (some 1) else (if (a0 / 16777216) = 127 then (some 2) else (if a0 = 4294967295 then (some 4) else (if (a0 / 268435456) = 14 then (some 3) else (if (a0 / 268435456) = 15 then (some 5) else (some 6)))))) = some r := by rw [if_pos rfl] at H; exact H
 clear H
 have H := H1
 clear H1
 by_cases c4 : a0 = 0
 rw [if_pos c4] at H
 have c4b0 : (a0 == 0) = true := beq_iff_eq.mpr c4
 have c4b1 : (a0 != 0) = false := bne_eq_false_iff_eq.mpr c4
 clear c4
 obtain rfl := Option.some.inj H
 rotate_left
 rw [if_neg c4] at H
 have c4b0 : (a0 == 0) = false := beq_eq_false_iff_ne.mpr c4
 have c4b1 : (a0 != 0) = true := bne_iff_ne.mpr c4
 by_cases c5 : (a0 / 16777216) = 127
 rw [if_pos c5] at H
 have c5b0 : ((a0 / 16777216) == 127) = true := beq_iff_eq.mpr c5
 have c5b1 : ((a0 / 16777216) != 127) = false := bne_eq_false_iff_eq.mpr c5
 clear c5
 obtain rfl := Option.some.inj H
 rotate_left
 rw [if_neg c5] at H
 have c5b0 : ((a0 / 16777216) == 127) = false := beq_eq_false_iff_ne.mpr c5
 have c5b1 : ((a0 / 16777216) != 127) = true := bne_iff_ne.mpr c5
 by_cases c6 : a0 = 4294967295
 rw [if_pos c6] at H
 have c6b0 : (a0 == 4294967295) = true := beq_iff_eq.mpr c6
 have c6b1 : (a0 != 4294967295) = false := bne_eq_false_iff_eq.mpr c6
 clear c6
 obtain rfl := Option.some.inj H
 rotate_left
 rw [if_neg c6] at H
 have c6b0 : (a0 == 4294967295) = false := beq_eq_false_iff_ne.mpr c6
 have c6b1 : (a0 != 4294967295) = true := bne_iff_ne.mpr c6
 by_cases c7 : (a0 / 268435456) = 14
 rw [if_pos c7] at H
 have c7b0 : ((a0 / 268435456) == 14) = true := beq_iff_eq.mpr c7
 have c7b1 : ((a0 / 268435456) != 14) = false := bne_eq_false_iff_eq.mpr c7
 clear c7
 obtain rfl := Option.some.inj H
 rotate_left
 rw [if_neg c7] at H
 have c7b0 : ((a0 / 268435456) == 14) = false := beq_eq_false_iff_ne.mpr c7
 have c7b1 : ((a0 / 268435456) != 14) = true := bne_iff_ne.mpr c7
 by_cases c8 : (a0 / 268435456) = 15
 rw [if_pos c8] at H
 have c8b0 : ((a0 / 268435456) == 15) = true := beq_iff_eq.mpr c8
 have c8b1 : ((a0 / 268435456) != 15) = false := bne_eq_false_iff_eq.mpr c8
 clear c8
 obtain rfl := Option.some.inj H
 rotate_left
 rw [if_neg c8] at H
 have c8b0 : ((a0 / 268435456) == 15) = false := beq_eq_false_iff_ne.mpr c8
 have c8b1 : ((a0 / 268435456) != 15) = true := bne_iff_ne.mpr c8
 obtain rfl := Option.some.inj H
 rotate_left
 replace c3 := Bool.eq_false_iff.mpr c3
 subst c3
 have H1 : (some 0) = some r := by rw [if_neg (show ¬ (false = true) by decide)] at H; exact H
 clear H
 have H := H1
 clear H1
 obtain rfl := Option.some.inj H
 rotate_left
 all_goals (
 go_enter Try.func141, Try.ntmps141
 go_wp2_with (first | ((with_reducible refine gate_callee (f := 106) rfl ?_); refine goesL_ (some 5) rfl rfl Try.func106 (by kernel_rfl) rfl #[.int .i64 a0] rfl wT ?_; (with_reducible refine (spec_l02AddrOK.calls a0 _ _ A2.out).mono ?_); rintro e w' ⟨rfl, ⟨nd, rfl⟩⟩; refine ⟨_, rfl, ?_⟩))
 go_ret
 exact ⟨by first | rfl | (simp; done) | (simp [*]; done), by repeat (first | exact Drawn0.refl _ | apply Drawn0.step)⟩
 )

/-! ### spec_MayComplain: function 112 -/
def spec_MayComplain.j0 : Nat → Bool → Int → Int → Bool → Bool → Int → Int → Int → Int → Int → List Int → List Int → Option (Bool)
  | 0, _, _, _, _, _, _, _, _, _, _, _, _ => none
  | k + 1, x28, x210000, x210001, x210002, x210003, x210004, x210005, x210006, x210007, x210008, x210009, x210010 => if x28 = true then (some false) else (if x210006 = 1 then (if (x210010.length : Int) > 0 then (if 0 < (x210010.length : Int) then (if (rd x210010 0) = 8 then (some true) else (some ((rd x210010 0) == 0))) else (none)) else (some false)) else (some true))
def spec_MayComplain.f (k : Nat) (a0_0 : Int) (a0_1 : Int) (a0_2 : Bool) (a0_3 : Bool) (a0_4 : Int) (a0_5 : Int) (a0_6 : Int) (a0_7 : Int) (a0_8 : Int) (l0_9 : List Int) (l0_10 : List Int) : Option (Bool) := (spec_EncodeIP.f k a0_0 a0_1 a0_2 a0_3 a0_4 a0_5 a0_6 a0_7 a0_8 l0_9 l0_10).bind fun bt210 => (if bt210.2 = 0 then (if a0_4 = 0 then ((spec_AddrKind.f a0_7).bind fun t214 => (if t214 = 6 then ((spec_AddrKind.f a0_8).bind fun t215 => (spec_MayComplain.j0 k (t215 != 6) a0_0 a0_1 a0_2 a0_3 a0_4 a0_5 a0_6 a0_7 a0_8 l0_9 l0_10)) else (spec_MayComplain.j0 k true a0_0 a0_1 a0_2 a0_3 a0_4 a0_5 a0_6 a0_7 a0_8 l0_9 l0_10))) else (spec_MayComplain.j0 k true a0_0 a0_1 a0_2 a0_3 a0_4 a0_5 a0_6 a0_7 a0_8 l0_9 l0_10)) else (spec_MayComplain.j0 k true a0_0 a0_1 a0_2 a0_3 a0_4 a0_5 a0_6 a0_7 a0_8 l0_9 l0_10))
theorem spec_MayComplain.mono_l : ∀ k, (∀ y0 y1 y2 y3 y4 y5 y6 y7 y8 y9 y10 y11, LeO (spec_MayComplain.j0 k y0 y1 y2 y3 y4 y5 y6 y7 y8 y9 y10 y11) (spec_MayComplain.j0 (k + 1) y0 y1 y2 y3 y4 y5 y6 y7 y8 y9 y10 y11))
  | 0 => fun _ _ _ _ _ _ _ _ _ _ _ _ r h => by simp [spec_MayComplain.j0] at h
  | k + 1 => by
    have ih0 := spec_MayComplain.mono_l k
    · intro y0 y1 y2 y3 y4 y5 y6 y7 y8 y9 y10 y11
      unfold spec_MayComplain.j0
      repeat' first
      | (with_reducible exact ih0 _ _ _ _ _ _ _ _ _ _ _ _)
      | (with_reducible exact spec_EncodeIP.mono _ _ _ _ _ _ _ _ _ _ _ _)
      | (with_reducible exact LeO.refl _)
      | (with_reducible exact LeO.none _)
      | (with_reducible refine LeO.ite ?_ ?_)
      | (with_reducible refine LeO.bind ?_ (fun _ => ?_))
      | exact ih0 _ _ _ _ _ _ _ _ _ _ _ _
      | exact spec_EncodeIP.mono _ _ _ _ _ _ _ _ _ _ _ _
      | exact LeO.none _
      | refine LeO.ite ?_ ?_
      | refine LeO.bind ?_ (fun _ => ?_)
theorem spec_MayComplain.mono : ∀ a0 a1 a2 a3 a4 a5 a6 a7 a8 a9 a10 k, LeO (spec_MayComplain.f k a0 a1 a2 a3 a4 a5 a6 a7 a8 a9 a10) (spec_MayComplain.f (k + 1) a0 a1 a2 a3 a4 a5 a6 a7 a8 a9 a10) := by
 intro a0 a1 a2 a3 a4 a5 a6 a7 a8 a9 a10 k
 have ih0 := spec_MayComplain.mono_l k
 unfold spec_MayComplain.f
 repeat' first
     | (with_reducible exact ih0 _ _ _ _ _ _ _ _ _ _ _ _)
     | (with_reducible exact spec_EncodeIP.mono _ _ _ _ _ _ _ _ _ _ _ _)
     | (with_reducible exact LeO.refl _)
     | (with_reducible exact LeO.none _)
     | (with_reducible refine LeO.ite ?_ ?_)
     | (with_reducible refine LeO.bind ?_ (fun _ => ?_))
     | exact ih0 _ _ _ _ _ _ _ _ _ _ _ _
     | exact spec_EncodeIP.mono _ _ _ _ _ _ _ _ _ _ _ _
     | exact LeO.none _
     | refine LeO.ite ?_ ?_
     | refine LeO.bind ?_ (fun _ => ?_)
set_option maxHeartbeats 60000000 in
set_option maxRecDepth 100000 in
theorem spec_MayComplain.calls (k : Nat) (a0_0 : Int) (a0_1 : Int) (a0_2 : Bool) (a0_3 : Bool) (a0_4 : Int) (a0_5 : Int) (a0_6 : Int) (a0_7 : Int) (a0_8 : Int) (A0_9 : Option Addr) (c0_9 : Nat) (l0_9 : List Int) (A0_10 : Option Addr) (c0_10 : Nat) (l0_10 : List Int) (r : Bool) (w : World) (hr0_9 : Kd.C (Kd.int .u8) w A0_9 l0_9.length l0_9) (hc0_9 : l0_9.length ≤ c0_9) (hr0_10 : Kd.C (Kd.int .u8) w A0_10 l0_10.length l0_10) (hc0_10 : l0_10.length ≤ c0_10) (h : spec_MayComplain.f k a0_0 a0_1 a0_2 a0_3 a0_4 a0_5 a0_6 a0_7 a0_8 l0_9 l0_10 = some r) :
 Calls Try.prog 112 #[.agg #[.int .i64 a0_0, .int .i64 a0_1, .bool a0_2, .bool a0_3, .int .i64 a0_4, .int .i64 a0_5, .int .i64 a0_6, .int .i64 a0_7, .int .i64 a0_8, .slice A0_9 l0_9.length c0_9, .slice A0_10 l0_10.length c0_10]] w fun e w' => e = .returned (.bool r) ∧ Below w.heap.size w w' := by
 have hu51 := Try.underlying51
 have HR0_9 := Aside0.mk hr0_9
 have HC0_9 := Aside0.mk hc0_9
 clear hr0_9 hc0_9
 have HR0_10 := Aside0.mk hr0_10
 have HC0_10 := Aside0.mk hc0_10
 clear hr0_10 hc0_10
 have HB := Aside0.mk (Below.refl w.heap.size w)
 have H : ((spec_EncodeIP.f k a0_0 a0_1 a0_2 a0_3 a0_4 a0_5 a0_6 a0_7 a0_8 l0_9 l0_10).bind fun bt210 => (if bt210.2 = 0 then (if a0_4 = 0 then ((spec_AddrKind.f a0_7).bind fun t214 => (if t214 = 6 then ((spec_AddrKind.f a0_8).bind fun t215 => (spec_MayComplain.j0 k (t215 != 6) a0_0 a0_1 a0_2 a0_3 a0_4 a0_5 a0_6 a0_7 a0_8 l0_9 l0_10)) else (spec_MayComplain.j0 k true a0_0 a0_1 a0_2 a0_3 a0_4 a0_5 a0_6 a0_7 a0_8 l0_9 l0_10))) else (spec_MayComplain.j0 k true a0_0 a0_1 a0_2 a0_3 a0_4 a0_5 a0_6 a0_7 a0_8 l0_9 l0_10)) else (spec_MayComplain.j0 k true a0_0 a0_1 a0_2 a0_3 a0_4 a0_5 a0_6 a0_7 a0_8 l0_9 l0_10))) = some r := h
 clear h
 replace H := Option.bind_eq_some_iff.mp H
 obtain ⟨⟨t210, t213⟩, A20, H⟩ := H
 replace H : (if t213 = 0 then (if a0_4 = 0 then ((spec_AddrKind.f a0_7).bind fun t214 => (if t214 = 6 then ((spec_AddrKind.f a0_8).bind fun t215 => (spec_MayComplain.j0 k (t215 != 6) a0_0 a0_1 a0_2 a0_3 a0_4 a0_5 a0_6 a0_7 a0_8 l0_9 l0_10)) else (spec_MayComplain.j0 k true a0_0 a0_1 a0_2 a0_3 a0_4 a0_5 a0_6 a0_7 a0_8 l0_9 l0_10))) else (spec_MayComplain.j0 k true a0_0 a0_1 a0_2 a0_3 a0_4 a0_5 a0_6 a0_7 a0_8 l0_9 l0_10)) else (spec_MayComplain.j0 k true a0_0 a0_1 a0_2 a0_3 a0_4 a0_5 a0_6 a0_7 a0_8 l0_9 l0_10)) = some r := H
 have A2 := Aside0.mk A20
 clear A20
 have HC3 := Aside0.mk H
 clear H
 go_enter Try.func112, Try.ntmps112
 go_upto_region 2 with (first | ((with_reducible refine gate_dst (N := 1) rfl ?_); refine box_event ?hg (N := 1) ?hd (cs := #[.int .i64 a0_0, .int .i64 a0_1, .bool a0_2, .bool a0_3, .int .i64 a0_4, .int .i64 a0_5, .int .i64 a0_6, .int .i64 a0_7, .int .i64 a0_8, .slice A0_9 l0_9.length c0_9, .slice A0_10 l0_10.length c0_10]) (t := 51) ?hr ?_; (case hd => rfl); (case hg => rfl); (case hr => first | (go_simp; done) | (go_simp; rfl)); intro gb209 hg w1001 hbox hb; have n0_ := Aside0.mk (below_step wB hb); have n1_ := Aside0.mk (hbox); have n2_ := Aside0.mk ((by rw [hg]; exact (below_size wB) : w.heap.size ≤ gb209)); have n3_ := Aside0.mk ((by rw [hg]; exact (below_size wB) : w.heap.size ≤ gb209)); clear HB; have HB := n0_; have BK209 := n1_; have GW209 := n2_; have GE209 := n3_; clear n0_ n1_ n2_ n3_; clear hb hbox hg; obtain ⟨⟨hcz1002_0, hcz1002_1, hcz1002_2, hcz1002_3, hcz1002_4, hcz1002_5, hcz1002_6, hcz1002_7, hcz1002_8, hcz1002_9, hcz1002_10⟩, hfz1002_0, hfz1002_1, hfz1002_2, hfz1002_3, hfz1002_4, hfz1002_5, hfz1002_6, hfz1002_7, hfz1002_8, hfz1002_9, hfz1002_10⟩ := cells11 BK209.out) | ((with_reducible refine gate_callee (f := 113) rfl ?_); refine goesL_ (some 7) rfl rfl Try.func113 (by kernel_rfl) rfl #[.agg #[.int .i64 a0_0, .int .i64 a0_1, .bool a0_2, .bool a0_3, .int .i64 a0_4, .int .i64 a0_5, .int .i64 a0_6, .int .i64 a0_7, .int .i64 a0_8, .slice A0_9 l0_9.length c0_9, .slice A0_10 l0_10.length c0_10]] rfl wT ?_; (with_reducible refine (spec_EncodeIP.calls k a0_0 a0_1 a0_2 a0_3 a0_4 a0_5 a0_6 a0_7 a0_8 _ _ l0_9 _ _ l0_10 t210 t213 _ ?side1 ?side2 ?side3 ?side4 A2.out).mono ?_); (case side1 => exact Kd.C_below HR0_9.out wB); (case side2 => exact HC0_9.out); (case side3 => exact Kd.C_below HR0_10.out wB); (case side4 => exact HC0_10.out); rintro e w1003 ⟨v211, rfl, ho0, hb⟩; refine ⟨_, rfl, ?_⟩; have n0_ := Aside0.mk (Kd.R_lower ho0 (below_size wB)); have n1_ := Aside0.mk (blk_below (Bh BK209) hb); have n2_ := Aside0.mk (below_step wB hb); clear BK209; clear HB; have HO212 := n0_; have BK209 := n1_; have HB := n2_; clear n0_ n1_ n2_; (try clear hb); (try clear hb2); (try clear hk); (try clear hi); (try clear ho0)))
 (try simp only [Act.put, List.setIfInBounds_toArray, List.set_cons_zero, List.set_cons_succ])
 go_cut [28] (fun v28 wc => ∃ (kq : Nat) (x28_2 : Bool), v28 = .bool x28_2 ∧ Aside0 (spec_MayComplain.j0 kq x28_2 a0_0 a0_1 a0_2 a0_3 a0_4 a0_5 a0_6 a0_7 a0_8 l0_9 l0_10 = some r) ∧ Aside0 (kq ≤ k) ∧ Aside0 (wc.heap[gb209]? = some (.cells #[.int .i64 a0_0, .int .i64 a0_1, .bool a0_2, .bool a0_3, .int .i64 a0_4, .int .i64 a0_5, .int .i64 a0_6, .int .i64 a0_7, .int .i64 a0_8, (.slice A0_9 l0_9.length c0_9), (.slice A0_10 l0_10.length c0_10)] 51 (0, 0))) ∧ Aside0 (Below w.heap.size w wc))
 case first => (
 have H := HC3.out
 clear HC3
 by_cases c1004 : t213 = 0
 rw [if_pos c1004] at H
 have c1004b0 : (t213 == 0) = true := beq_iff_eq.mpr c1004
 have c1004b1 : (t213 != 0) = false := bne_eq_false_iff_eq.mpr c1004
 clear c1004
 (first | rw [c1004b0] | (simp only [i64_w, i32_w]; rw [c1004b0]) | skip)
 by_cases c1005 : a0_4 = 0
 rw [if_pos c1005] at H
 have c1005b0 : (a0_4 == 0) = true := beq_iff_eq.mpr c1005
 have c1005b1 : (a0_4 != 0) = false := bne_eq_false_iff_eq.mpr c1005
 clear c1005
 replace H := Option.bind_eq_some_iff.mp H
 obtain ⟨t214, A10060, H⟩ := H
 replace H : (if t214 = 6 then ((spec_AddrKind.f a0_8).bind fun t215 => (spec_MayComplain.j0 k (t215 != 6) a0_0 a0_1 a0_2 a0_3 a0_4 a0_5 a0_6 a0_7 a0_8 l0_9 l0_10)) else (spec_MayComplain.j0 k true a0_0 a0_1 a0_2 a0_3 a0_4 a0_5 a0_6 a0_7 a0_8 l0_9 l0_10)) = some r := H
 have A1006 := Aside0.mk A10060
 clear A10060
 by_cases c1007 : t214 = 6
 rw [if_pos c1007] at H
 have c1007b0 : (t214 == 6) = true := beq_iff_eq.mpr c1007
 have c1007b1 : (t214 != 6) = false := bne_eq_false_iff_eq.mpr c1007
 clear c1007
 replace H := Option.bind_eq_some_iff.mp H
 obtain ⟨t215, A10080, H⟩ := H
 replace H : (spec_MayComplain.j0 k (t215 != 6) a0_0 a0_1 a0_2 a0_3 a0_4 a0_5 a0_6 a0_7 a0_8 l0_9 l0_10) = some r := H
 have A1008 := Aside0.mk A10080
 clear A10080
 have H' := Aside0.mk H
 clear H
 rotate_left
 rw [if_neg c1007] at H
 have c1007b0 : (t214 == 6) = false := beq_eq_false_iff_ne.mpr c1007
 have c1007b1 : (t214 != 6) = true := bne_iff_ne.mpr c1007
 have H' := Aside0.mk H
 clear H
 rotate_left
 rw [if_neg c1005] at H
 have c1005b0 : (a0_4 == 0) = false := beq_eq_false_iff_ne.mpr c1005
 have c1005b1 : (a0_4 != 0) = true := bne_iff_ne.mpr c1005
 have H' := Aside0.mk H
 clear H
 rotate_left
 rw [if_neg c1004] at H
 have c1004b0 : (t213 == 0) = false := beq_eq_false_iff_ne.mpr c1004
 have c1004b1 : (t213 != 0) = true := bne_iff_ne.mpr c1004
 (first | rw [c1004b0] | (simp only [i64_w, i32_w]; rw [c1004b0]) | skip)
 have H' := Aside0.mk H
 clear H
 rotate_left
 iterate 3 (
 focus (
 obtain ⟨⟨hcz2001_0, hcz2001_1, hcz2001_2, hcz2001_3, hcz2001_4, hcz2001_5, hcz2001_6, hcz2001_7, hcz2001_8, hcz2001_9, hcz2001_10⟩, hfz2001_0, hfz2001_1, hfz2001_2, hfz2001_3, hfz2001_4, hfz2001_5, hfz2001_6, hfz2001_7, hfz2001_8, hfz2001_9, hfz2001_10⟩ := cells11 BK209.out
 )
 rotate_left
 )
 rotate_right 3
 iterate 2 (
 focus (
 go_wp2_with (first | (go_at_call 141; (with_reducible refine (spec_AddrKind.calls a0_7 t214 _ A1006.out).mono ?_); rintro e w' ⟨rfl, ⟨nd, rfl⟩⟩) | (go_at_call 141; (with_reducible refine (spec_AddrKind.calls a0_8 t215 _ A1008.out).mono ?_); rintro e w' ⟨rfl, ⟨nd, rfl⟩⟩))
 all_goals (try (rename_i h_; exfalso; cases h_; done))
 all_goals (try (rename_i h_ h2_; exfalso; cases h_; done))
 go_meet
 )
 rotate_left
 )
 rotate_right 2
 {
 case rel => exact ⟨_, ((t215 != 6)), (by first | rfl | (simp; done) | (simp [*]; done)), H', ⟨by first | omega | exact Nat.le_refl _⟩, ⟨Bh BK209⟩, ⟨wB⟩⟩
 }
 {
 case rel => exact ⟨_, (true), (by first | rfl | (simp; done) | (simp [*]; done)), H', ⟨by first | omega | exact Nat.le_refl _⟩, ⟨Bh BK209⟩, ⟨wB⟩⟩
 }
 {
 go_wp2
 all_goals (try (rename_i h_; exfalso; cases h_; done))
 all_goals (try (rename_i h_ h2_; exfalso; cases h_; done))
 go_meet
 case rel => exact ⟨_, (true), (by first | rfl | (simp; done) | (simp [*]; done)), H', ⟨by first | omega | exact Nat.le_refl _⟩, ⟨Bh BK209⟩, ⟨wB⟩⟩
 }
 {
 go_wp2
 all_goals (try (rename_i h_; exfalso; cases h_; done))
 all_goals (try (rename_i h_ h2_; exfalso; cases h_; done))
 go_meet
 case rel => exact ⟨_, (true), (by first | rfl | (simp; done) | (simp [*]; done)), H', ⟨by first | omega | exact Nat.le_refl _⟩, ⟨Bh BK209⟩, ⟨wB⟩⟩
 }
 )
 case rest => (
 clear HC3
 try clear c0
 try clear c1004
 try clear c1004b0
 try clear c1004b1
 try clear c1005
 try clear c1005b0
 try clear c1005b1
 try clear c1007
 try clear c1007b0
 try clear c1007b1
 try clear hcz1002_0 hcz1002_1 hcz1002_10 hcz1002_2 hcz1002_3 hcz1002_4 hcz1002_5 hcz1002_6 hcz1002_7 hcz1002_8 hcz1002_9 hfz1002_0 hfz1002_1 hfz1002_10 hfz1002_2 hfz1002_3 hfz1002_4 hfz1002_5 hfz1002_6 hfz1002_7 hfz1002_8 hfz1002_9
 try clear hcz2001_0 hcz2001_1 hcz2001_10 hcz2001_2 hcz2001_3 hcz2001_4 hcz2001_5 hcz2001_6 hcz2001_7 hcz2001_8 hcz2001_9 hfz2001_0 hfz2001_1 hfz2001_10 hfz2001_2 hfz2001_3 hfz2001_4 hfz2001_5 hfz2001_6 hfz2001_7 hfz2001_8 hfz2001_9
 obtain ⟨kq, x28_2, rfl, HA, HJ2, BK209, HB⟩ := hcut
 cases kq with
 | zero => exact absurd HA.out (by simp [spec_MayComplain.j0])
 | succ kj2 => {
 have H := HA.out
 clear HA
 simp only [spec_MayComplain.j0] at H
 by_cases c1009 : x28_2 = true
 subst c1009
 have H1 : (some false) = some r := by rw [if_pos rfl] at H; exact H
 clear H
 have H := H1
 clear H1
 obtain rfl := Option.some.inj H
 rotate_left
 replace c1009 := Bool.eq_false_iff.mpr c1009
 subst c1009
 have H1 : (if a0_6 = 1 then (if (l0_10.length : Int) > 0 then (if 0 < (l0_10.length : Int) then (if (rd l0_10 0) = 8 then (some true) else (some ((rd l0_10 0) == 0))) else (none)) else (some false)) else (some true)) = some r := by rw [if_neg (show ¬ (false = true) by decide)] at H; exact H
 clear H
 have H := H1
 clear H1
 by_cases c1010 : a0_6 = 1
 rw [if_pos c1010] at H
 have c1010b0 : (a0_6 == 1) = true := beq_iff_eq.mpr c1010
 have c1010b1 : (a0_6 != 1) = false := bne_eq_false_iff_eq.mpr c1010
 clear c1010
 by_cases c1011 : (l0_10.length : Int) > 0
 rw [if_pos c1011] at H
 have c1011b0 : decide (0 < (l0_10.length : Int)) = true := decide_eq_true c1011
 have c1011b1 : decide (0 < l0_10.length) = true := decide_eq_true (by omega)
 clear c1011
 by_cases c1012 : 0 < (l0_10.length : Int)
 rw [if_pos c1012] at H
 have c1012b0 : decide (0 < (l0_10.length : Int)) = true := decide_eq_true c1012
 have c1012b1 : decide (0 < l0_10.length) = true := decide_eq_true (by omega)
 clear c1012
 by_cases c1013 : (rd l0_10 0) = 8
 rw [if_pos c1013] at H
 have c1013b0 : ((rd l0_10 0) == 8) = true := beq_iff_eq.mpr c1013
 have c1013b1 : ((rd l0_10 0) != 8) = false := bne_eq_false_iff_eq.mpr c1013
 clear c1013
 obtain rfl := Option.some.inj H
 rotate_left
 rw [if_neg c1013] at H
 have c1013b0 : ((rd l0_10 0) == 8) = false := beq_eq_false_iff_ne.mpr c1013
 have c1013b1 : ((rd l0_10 0) != 8) = true := bne_iff_ne.mpr c1013
 obtain rfl := Option.some.inj H
 rotate_left
 rw [if_neg c1012] at H
 exact absurd H (by simp)
 rw [if_neg c1011] at H
 have c1011b0 : decide (0 < (l0_10.length : Int)) = false := decide_eq_false c1011
 have c1011b1 : decide (0 < l0_10.length) = false := decide_eq_false (by omega)
 clear c1011
 obtain rfl := Option.some.inj H
 rotate_left
 rw [if_neg c1010] at H
 have c1010b0 : (a0_6 == 1) = false := beq_eq_false_iff_ne.mpr c1010
 have c1010b1 : (a0_6 != 1) = true := bne_iff_ne.mpr c1010
 obtain rfl := Option.some.inj H
 rotate_left
 {
 go_wp2
 all_goals (try (rename_i h_; exfalso; cases h_; done))
 all_goals (try (rename_i h_ h2_; exfalso; cases h_; done))
 go_ret
 exact ⟨by first | rfl | (simp [errW_none, errW_some] <;> rfl) | (simp [*, errW_none, errW_some] <;> rfl), wB⟩
 }
 all_goals (
 obtain ⟨⟨hcz2001_0, hcz2001_1, hcz2001_2, hcz2001_3, hcz2001_4, hcz2001_5, hcz2001_6, hcz2001_7, hcz2001_8, hcz2001_9, hcz2001_10⟩, hfz2001_0, hfz2001_1, hfz2001_2, hfz2001_3, hfz2001_4, hfz2001_5, hfz2001_6, hfz2001_7, hfz2001_8, hfz2001_9, hfz2001_10⟩ := cells11 BK209.out
 )
 iterate 2 (
 focus (
 have p216 : 0 ≤ (0 : Int) := (by omega)
 have q216 : 0 < (l0_10.length : Int) := of_decide_eq_true (by first | (with_reducible assumption) | assumption)
 obtain ⟨ad216, e216, hx216_0⟩ := Kd.at_int HR0_10.out 0 p216 q216
 cases e216
 have qi216 : (0 < l0_10.length) = True := eq_true (by omega)
 (try rw [show ((0 : Int)).toNat = 0 from rfl] at hx216_0)
 (try rw [Addr.add_zero'] at hx216_0)
 replace hx216_0 := (HB.out.cell (World.block_lt_of_cell? w _ hx216_0)).trans hx216_0
 replace p216 := eq_true p216
 replace q216 := eq_true q216
 )
 rotate_left
 )
 rotate_right 2
 {
 go_wp2
 all_goals (try (rename_i h_; exfalso; cases h_; done))
 all_goals (try (rename_i h_ h2_; exfalso; cases h_; done))
 go_ret
 exact ⟨by first | rfl | (simp [errW_none, errW_some] <;> rfl) | (simp [*, errW_none, errW_some] <;> rfl), wB⟩
 }
 {
 have p217 : 0 ≤ (0 : Int) := (by omega)
 have q217 : 0 < (l0_10.length : Int) := of_decide_eq_true (by first | (with_reducible assumption) | assumption)
 obtain ⟨ad217, e217, hx217_0⟩ := Kd.at_int HR0_10.out 0 p217 q217
 obtain rfl : ad216 = ad217 := (by injection e217)
 have qi217 : (0 < l0_10.length) = True := eq_true (by omega)
 (try rw [show ((0 : Int)).toNat = 0 from rfl] at hx217_0)
 (try rw [Addr.add_zero'] at hx217_0)
 replace hx217_0 := (HB.out.cell (World.block_lt_of_cell? w _ hx217_0)).trans hx217_0
 replace p217 := eq_true p217
 replace q217 := eq_true q217
 go_wp2
 all_goals (try (rename_i h_; exfalso; cases h_; done))
 all_goals (try (rename_i h_ h2_; exfalso; cases h_; done))
 go_ret
 exact ⟨by first | rfl | (simp [errW_none, errW_some] <;> rfl) | (simp [*, errW_none, errW_some] <;> rfl), wB⟩
 }
 all_goals (
 go_wp2
 all_goals (try (rename_i h_; exfalso; cases h_; done))
 all_goals (try (rename_i h_ h2_; exfalso; cases h_; done))
 go_ret
 exact ⟨by first | rfl | (simp [errW_none, errW_some] <;> rfl) | (simp [*, errW_none, errW_some] <;> rfl), wB⟩
 )
 }
 )

end Go.Proofs.Ytkfbcmbemihbnaa.PFnExactComplain
