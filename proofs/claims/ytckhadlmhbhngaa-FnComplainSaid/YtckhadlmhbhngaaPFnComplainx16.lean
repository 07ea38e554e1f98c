-- Written for this claim by a program of this session (wip/mkprint.py: the print, turned at a few places). Not trusted: Lean checks it.
import Derived.Test.YtckhadlmhbhngaaPFnComplainx0
import Derived.Test.YtckhadlmhbhngaaPFnComplainx3
import Derived.Test.YtckhadlmhbhngaaPFnComplainx4
import Derived.Test.YtckhadlmhbhngaaPFnComplainx14
import Derived.Test.YtckhadlmhbhngaaPFnComplainx15
namespace Go.Proofs.Ytckhadlmhbhngaa.PFnComplain
open Go.RowKit Go.Proofs.YtckhadlmhbhngaaW.PrintWords Go.Proofs.YtckhadlmhbhngaaW.PrintLast Go.Proofs.YtckhadlmhbhngaaW.PrintMore
attribute [local go_sem] max2_int min2_int max_two min_two max_three min_three max_four min_four   -- for this text's walks alone
set_option linter.unusedVariables false
set_option linter.unusedSimpArgs false

/-! ### impl_Complain: function 24 -/
def impl_Complain.j0 : Nat → Int → Int → Int → Int → Bool → Int → Int → Bool → Bool → Int → Int → Int → Int → Int → List Int → List Int → Option (Int × Int × Bool × Bool × Int × Int × Int × Int × Int × List Int × List Int × Int)
  | 0, _, _, _, _, _, _, _, _, _, _, _, _, _, _, _, _ => none
  | k + 1, x1, x2, x3, x4, an, ac, ad, ae, af, ag, ah, ai, ab, aj, ak, aa => if an = true then (some (0, 0, false, false, 0, 0, 0, 0, 0, ([] : List Int), ([] : List Int), 1)) else ((impl_headIP.f k ac ad ae af ag ah ai ab aj ak aa).bind fun al => (if 0 ≤ (mn 8 (aa.length : Int)) then (if (mn 8 (aa.length : Int)) ≤ (aa.length : Int) then (if al.length + (aa.take ((mn 8 (aa.length : Int)) : Int).toNat).length < 140737488355328 then ((impl_EncodeIcmp.f k x2 x3 x4 (al ++ (aa.take ((mn 8 (aa.length : Int)) : Int).toNat))).bind fun am => (some (0, 0, false, false, 0, 64, 1, x1, ab, ([] : List Int), am.1, 0))) else (none)) else (none)) else (none)))
def impl_Complain.f (k : Nat) (ab : Int) (ac : Int) (ad : Bool) (ae : Bool) (af : Int) (ag : Int) (ah : Int) (ai : Int) (aj : Int) (ak : List Int) (aa : List Int) (a1 : Int) (a2 : Int) (a3 : Int) (a4 : Int) : Option (Int × Int × Bool × Bool × Int × Int × Int × Int × Int × List Int × List Int × Int) := (impl_MayComplain.f ab ac ad ae af ag ah ai aj ak aa).bind fun al => (if al = true then ((impl_isAddr.f a1).bind fun am => (if am = true then (if a2 = 3 then (if a3 < 0 then (impl_Complain.j0 k a1 a2 a3 a4 true ab ac ad ae af ag ah ai aj ak aa) else (if a3 > 255 then (impl_Complain.j0 k a1 a2 a3 a4 true ab ac ad ae af ag ah ai aj ak aa) else (if a4 < 0 then (impl_Complain.j0 k a1 a2 a3 a4 true ab ac ad ae af ag ah ai aj ak aa) else (impl_Complain.j0 k a1 a2 a3 a4 (decide (a4 > 4294967295)) ab ac ad ae af ag ah ai aj ak aa)))) else (if a2 = 11 then (if a3 < 0 then (impl_Complain.j0 k a1 a2 a3 a4 true ab ac ad ae af ag ah ai aj ak aa) else (if a3 > 255 then (impl_Complain.j0 k a1 a2 a3 a4 true ab ac ad ae af ag ah ai aj ak aa) else (if a4 < 0 then (impl_Complain.j0 k a1 a2 a3 a4 true ab ac ad ae af ag ah ai aj ak aa) else (impl_Complain.j0 k a1 a2 a3 a4 (decide (a4 > 4294967295)) ab ac ad ae af ag ah ai aj ak aa)))) else (impl_Complain.j0 k a1 a2 a3 a4 true ab ac ad ae af ag ah ai aj ak aa))) else (impl_Complain.j0 k a1 a2 a3 a4 true ab ac ad ae af ag ah ai aj ak aa))) else (impl_Complain.j0 k a1 a2 a3 a4 true ab ac ad ae af ag ah ai aj ak aa))
theorem impl_Complain.mono_l : ∀ k, (∀ y0 y1 y2 y3 y4 y5 y6 y7 y8 y9 aa ab ac ad ae af, LeO (impl_Complain.j0 k y0 y1 y2 y3 y4 y5 y6 y7 y8 y9 aa ab ac ad ae af) (impl_Complain.j0 (k + 1) y0 y1 y2 y3 y4 y5 y6 y7 y8 y9 aa ab ac ad ae af))
  | 0 => fun _ _ _ _ _ _ _ _ _ _ _ _ _ _ _ _ r h => by simp [impl_Complain.j0] at h
  | k + 1 => by
    have ih0 := impl_Complain.mono_l k
    · intro y0 y1 y2 y3 y4 y5 y6 y7 y8 y9 aa ab ac ad ae af
      unfold impl_Complain.j0
      repeat' first
      | (with_reducible exact ih0 _ _ _ _ _ _ _ _ _ _ _ _ _ _ _ _)
      | (with_reducible exact impl_EncodeIcmp.mono _ _ _ _ _)
      | (with_reducible exact impl_headIP.mono _ _ _ _ _ _ _ _ _ _ _ _)
      | (with_reducible exact LeO.refl _)
      | (with_reducible exact LeO.none _)
      | (with_reducible refine LeO.ite ?_ ?_)
      | (with_reducible refine LeO.bind ?_ (fun _ => ?_))
      | exact ih0 _ _ _ _ _ _ _ _ _ _ _ _ _ _ _ _
      | exact impl_EncodeIcmp.mono _ _ _ _ _
      | exact impl_headIP.mono _ _ _ _ _ _ _ _ _ _ _ _
      | exact LeO.none _
      | refine LeO.ite ?_ ?_
      | refine LeO.bind ?_ (fun _ => ?_)
theorem impl_Complain.mono : ∀ a0 a1 a2 a3 a4 a5 a6 a7 a8 a9 aa ab ac ad ae k, LeO (impl_Complain.f k a0 a1 a2 a3 a4 a5 a6 a7 a8 a9 aa ab ac ad ae) (impl_Complain.f (k + 1) a0 a1 a2 a3 a4 a5 a6 a7 a8 a9 aa ab ac ad ae) := by
 intro a0 a1 a2 a3 a4 a5 a6 a7 a8 a9 aa ab ac ad ae k
 have ih0 := impl_Complain.mono_l k
 unfold impl_Complain.f
 repeat' first
     | (with_reducible exact ih0 _ _ _ _ _ _ _ _ _ _ _ _ _ _ _ _)
     | (with_reducible exact impl_EncodeIcmp.mono _ _ _ _ _)
     | (with_reducible exact impl_headIP.mono _ _ _ _ _ _ _ _ _ _ _ _)
     | (with_reducible exact LeO.refl _)
     | (with_reducible exact LeO.none _)
     | (with_reducible refine LeO.ite ?_ ?_)
     | (with_reducible refine LeO.bind ?_ (fun _ => ?_))
     | exact ih0 _ _ _ _ _ _ _ _ _ _ _ _ _ _ _ _
     | exact impl_EncodeIcmp.mono _ _ _ _ _
     | exact impl_headIP.mono _ _ _ _ _ _ _ _ _ _ _ _
     | exact LeO.none _
     | refine LeO.ite ?_ ?_
     | refine LeO.bind ?_ (fun _ => ?_)
def impl_Complain.T3 : Bool × List (List Nat × List Nat) := (true, [([], []), ([0], [0]), ([], []), ([2], [2]), ([], []), ([4], [4]), ([5], [5]), ([6], [6]), ([3, 7], [3, 7]), ([1, 8, 1], [1, 8]), ([9, 9, 0, 1, 2, 3, 4, 5, 6, 7, 8, 9], [9])])
def impl_Complain.B3 : List Nat := [0, 1, 0, 4, 0, 16, 48, 112, 252, 511, 1023]
theorem impl_Complain.tab3 : rtab .any (opsOf Try.f24 3) = impl_Complain.T3 := by kernel_rfl
theorem impl_Complain.bits3 : waitsOk impl_Complain.T3.2 impl_Complain.B3 = true := by kernel_rfl
set_option maxHeartbeats 60000000 in
set_option maxRecDepth 100000 in
theorem impl_Complain.calls (k : Nat) (af : Int) (ag : Int) (ah : Bool) (ai : Bool) (aj : Int) (ak : Int) (al : Int) (ac : Int) (am : Int) (A0_9 : Option Addr) (ax : Nat) (ad : List Int) (A0_10 : Option Addr) (ar : Nat) (aa : List Int) (a1 : Int) (a2 : Int) (a3 : Int) (a4 : Int) (r1 : Int) (r2 : Int) (r3 : Bool) (r4 : Bool) (r5 : Int) (r6 : Int) (r7 : Int) (r8 : Int) (r9 : Int) (aI : List Int) (aJ : List Int) (aK : Int) (w : World) (hr0_9 : Kd.C (Kd.int .u8) w A0_9 ad.length ad) (hc0_9 : ad.length ≤ ax) (hr0_10 : Kd.C (Kd.int .u8) w A0_10 aa.length aa) (hc0_10 : aa.length ≤ ar) (h : impl_Complain.f k af ag ah ai aj ak al ac am ad aa a1 a2 a3 a4 = some (r1, r2, r3, r4, r5, r6, r7, r8, r9, aI, aJ, aK)) :
 Calls Try.prog 24 #[.agg #[.int .i64 af, .int .i64 ag, .bool ah, .bool ai, .int .i64 aj, .int .i64 ak, .int .i64 al, .int .i64 ac, .int .i64 am, .slice A0_9 ad.length ax, .slice A0_10 aa.length ar], .int .i64 a1, .int .i64 a2, .int .i64 a3, .int .i64 a4] w fun e w' => ∃ v9_ v10_ : Value, e = .returned (.tuple #[.agg #[.int .i64 r1, .int .i64 r2, .bool r3, .bool r4, .int .i64 r5, .int .i64 r6, .int .i64 r7, .int .i64 r8, .int .i64 r9, v9_, v10_], .int .i64 aK]) ∧ Kd.R (Kd.int .u8) 5 w' w.heap.size (fun k_ => some k_ ≠ (v10_ : Value).ownBlock) v9_ aI ∧ Kd.R (Kd.int .u8) 5 w' w.heap.size (fun k_ => some k_ ≠ (v9_ : Value).ownBlock) v10_ aJ ∧ Below w.heap.size w w' := by
 have hu25 := Try.underlying25
 have hu52 := Try.underlying52
 have HR0_9 := Aside0.mk hr0_9
 have cp := Aside0.mk hc0_9
 clear hr0_9 hc0_9
 have HR0_10 := Aside0.mk hr0_10
 have bA := Aside0.mk hc0_10
 clear hr0_10 hc0_10
 have HB := Aside0.mk (Below.refl w.heap.size w)
 have H : ((impl_MayComplain.f af ag ah ai aj ak al ac am ad aa).bind fun co => (if co = true then ((impl_isAddr.f a1).bind fun bB => (if bB = true then (if a2 = 3 then (if a3 < 0 then (impl_Complain.j0 k a1 a2 a3 a4 true af ag ah ai aj ak al ac am ad aa) else (if a3 > 255 then (impl_Complain.j0 k a1 a2 a3 a4 true af ag ah ai aj ak al ac am ad aa) else (if a4 < 0 then (impl_Complain.j0 k a1 a2 a3 a4 true af ag ah ai aj ak al ac am ad aa) else (impl_Complain.j0 k a1 a2 a3 a4 (decide (a4 > 4294967295)) af ag ah ai aj ak al ac am ad aa)))) else (if a2 = 11 then (if a3 < 0 then (impl_Complain.j0 k a1 a2 a3 a4 true af ag ah ai aj ak al ac am ad aa) else (if a3 > 255 then (impl_Complain.j0 k a1 a2 a3 a4 true af ag ah ai aj ak al ac am ad aa) else (if a4 < 0 then (impl_Complain.j0 k a1 a2 a3 a4 true af ag ah ai aj ak al ac am ad aa) else (impl_Complain.j0 k a1 a2 a3 a4 (decide (a4 > 4294967295)) af ag ah ai aj ak al ac am ad aa)))) else (impl_Complain.j0 k a1 a2 a3 a4 true af ag ah ai aj ak al ac am ad aa))) else (impl_Complain.j0 k a1 a2 a3 a4 true af ag ah ai aj ak al ac am ad aa))) else (impl_Complain.j0 k a1 a2 a3 a4 true af ag ah ai aj ak al ac am ad aa))) = some (r1, r2, r3, r4, r5, r6, r7, r8, r9, aI, aJ, aK) := h
 clear h
 have cs := Aside0.mk H
 clear H
 go_enter Try.func24, Try.ntmps24
 go_upto_region 1 with (first | ((with_reducible refine gate_dst (N := 5) rfl ?_); refine boxE 5 #[.int .i64 af, .int .i64 ag, .bool ah, .bool ai, .int .i64 aj, .int .i64 ak, .int .i64 al, .int .i64 ac, .int .i64 am, .slice A0_9 ad.length ax, .slice A0_10 aa.length ar] 25 ?_; intro ao hg dw hbox hb; have ab := Aside0.mk (hbox); have cv := Aside0.mk ((by rw [hg]; exact (below_size wB) : w.heap.size ≤ ao)); replace HB := Aside0.mk (below_step wB hb); have dx := cv; clear hb hbox hg) | ((with_reducible refine gate_dst (N := 10) rfl ?_); refine boxE 10 #[.int .i64 0, .int .i64 0, .bool false, .bool false, .int .i64 0, .int .i64 0, .int .i64 0, .int .i64 0, .int .i64 0, .slice none 0 0, .slice none 0 0] 25 ?_; intro au hg dy hbox hb; have ae := Aside0.mk (hbox); have cw := Aside0.mk ((by rw [hg]; exact (below_size wB) : w.heap.size ≤ au)); replace HB := Aside0.mk (below_step wB hb); have dz := cw; have ap := Aside0.mk ((by rw [hg]; exact Nat.ne_of_lt (blk_lt (Bh ab)) : ao ≠ au)); replace ab := Aside0.mk (blk_below (Bh ab) hb); have aM := Aside0.mk ap.out.symm; clear hb hbox hg))
 (try simp only [Act.put, List.setIfInBounds_toArray, List.set_cons_zero, List.set_cons_succ])
 go_cut [46] (fun dv wc => ∃ (kq : Nat) (bs : Bool), dv = .bool bs ∧ Aside0 (impl_Complain.j0 kq a1 a2 a3 a4 bs af ag ah ai aj ak al ac am ad aa = some (r1, r2, r3, r4, r5, r6, r7, r8, r9, aI, aJ, aK)) ∧ Aside0 (kq ≤ k) ∧ Aside0 (wc.heap[ao]? = some (.cells #[.int .i64 af, .int .i64 ag, .bool ah, .bool ai, .int .i64 aj, .int .i64 ak, .int .i64 al, .int .i64 ac, .int .i64 am, (.slice A0_9 ad.length ax), (.slice A0_10 aa.length ar)] 25 (0, 0))) ∧ Aside0 (wc.heap[au]? = some (.cells #[.int .i64 0, .int .i64 0, .bool false, .bool false, .int .i64 0, .int .i64 0, .int .i64 0, .int .i64 0, .int .i64 0, (.slice none 0 0), (.slice none 0 0)] 25 (0, 0))) ∧ Aside0 (Below w.heap.size w wc))
 case first => (
 have H := cs.out
 clear cs
 replace H := Option.bind_eq_some_iff.mp H
 obtain ⟨co, A10030, H⟩ := H
 have A1003 := Aside0.mk A10030
 clear A10030
 by_cases aT : co = true
 subst aT
 have H1 : ((impl_isAddr.f a1).bind fun bB => (if bB = true then (if a2 = 3 then (if a3 < 0 then (impl_Complain.j0 k a1 a2 a3 a4 true af ag ah ai aj ak al ac am ad aa) else (if a3 > 255 then (impl_Complain.j0 k a1 a2 a3 a4 true af ag ah ai aj ak al ac am ad aa) else (if a4 < 0 then (impl_Complain.j0 k a1 a2 a3 a4 true af ag ah ai aj ak al ac am ad aa) else (impl_Complain.j0 k a1 a2 a3 a4 (decide (a4 > 4294967295)) af ag ah ai aj ak al ac am ad aa)))) else (if a2 = 11 then (if a3 < 0 then (impl_Complain.j0 k a1 a2 a3 a4 true af ag ah ai aj ak al ac am ad aa) else (if a3 > 255 then (impl_Complain.j0 k a1 a2 a3 a4 true af ag ah ai aj ak al ac am ad aa) else (if a4 < 0 then (impl_Complain.j0 k a1 a2 a3 a4 true af ag ah ai aj ak al ac am ad aa) else (impl_Complain.j0 k a1 a2 a3 a4 (decide (a4 > 4294967295)) af ag ah ai aj ak al ac am ad aa)))) else (impl_Complain.j0 k a1 a2 a3 a4 true af ag ah ai aj ak al ac am ad aa))) else (impl_Complain.j0 k a1 a2 a3 a4 true af ag ah ai aj ak al ac am ad aa))) = some (r1, r2, r3, r4, r5, r6, r7, r8, r9, aI, aJ, aK) := by rw [if_pos rfl] at H; exact H
 clear H
 have H := H1
 clear H1
 replace H := Option.bind_eq_some_iff.mp H
 obtain ⟨bB, A10050, H⟩ := H
 have A1005 := Aside0.mk A10050
 clear A10050
 by_cases aU : bB = true
 subst aU
 have H1 : (if a2 = 3 then (if a3 < 0 then (impl_Complain.j0 k a1 a2 a3 a4 true af ag ah ai aj ak al ac am ad aa) else (if a3 > 255 then (impl_Complain.j0 k a1 a2 a3 a4 true af ag ah ai aj ak al ac am ad aa) else (if a4 < 0 then (impl_Complain.j0 k a1 a2 a3 a4 true af ag ah ai aj ak al ac am ad aa) else (impl_Complain.j0 k a1 a2 a3 a4 (decide (a4 > 4294967295)) af ag ah ai aj ak al ac am ad aa)))) else (if a2 = 11 then (if a3 < 0 then (impl_Complain.j0 k a1 a2 a3 a4 true af ag ah ai aj ak al ac am ad aa) else (if a3 > 255 then (impl_Complain.j0 k a1 a2 a3 a4 true af ag ah ai aj ak al ac am ad aa) else (if a4 < 0 then (impl_Complain.j0 k a1 a2 a3 a4 true af ag ah ai aj ak al ac am ad aa) else (impl_Complain.j0 k a1 a2 a3 a4 (decide (a4 > 4294967295)) af ag ah ai aj ak al ac am ad aa)))) else (impl_Complain.j0 k a1 a2 a3 a4 true af ag ah ai aj ak al ac am ad aa))) = some (r1, r2, r3, r4, r5, r6, r7, r8, r9, aI, aJ, aK) := by rw [if_pos rfl] at H; exact H
 clear H
 have H := H1
 clear H1
 by_cases av : a2 = 3
 rw [if_pos av] at H
 have c1007b0 : (a2 == 3) = true := beq_iff_eq.mpr av
 have c1007b1 : (a2 != 3) = false := bne_eq_false_iff_eq.mpr av
 clear av
 (first | rw [c1007b0] | (simp only [i64_w, i32_w]; rw [c1007b0]) | skip)
 by_cases ay : a3 < 0
 rw [if_pos ay] at H
 have c1008b0 : decide (a3 < 0) = true := decide_eq_true ay
 clear ay
 have H' := Aside0.mk H
 clear H
 rotate_left
 rw [if_neg ay] at H
 have c1008b0 : decide (a3 < 0) = false := decide_eq_false ay
 clear ay
 by_cases az : a3 > 255
 rw [if_pos az] at H
 have c1009b0 : decide (255 < a3) = true := decide_eq_true az
 clear az
 have H' := Aside0.mk H
 clear H
 rotate_left
 rw [if_neg az] at H
 have c1009b0 : decide (255 < a3) = false := decide_eq_false az
 clear az
 by_cases aA : a4 < 0
 rw [if_pos aA] at H
 have c1010b0 : decide (a4 < 0) = true := decide_eq_true aA
 clear aA
 have H' := Aside0.mk H
 clear H
 rotate_left
 rw [if_neg aA] at H
 have c1010b0 : decide (a4 < 0) = false := decide_eq_false aA
 clear aA
 have H' := Aside0.mk H
 clear H
 rotate_left
 rw [if_neg av] at H
 have c1007b0 : (a2 == 3) = false := beq_eq_false_iff_ne.mpr av
 have c1007b1 : (a2 != 3) = true := bne_iff_ne.mpr av
 (first | rw [c1007b0] | (simp only [i64_w, i32_w]; rw [c1007b0]) | skip)
 by_cases aw : a2 = 11
 rw [if_pos aw] at H
 have c1011b0 : (a2 == 11) = true := beq_iff_eq.mpr aw
 have c1011b1 : (a2 != 11) = false := bne_eq_false_iff_eq.mpr aw
 clear aw
 by_cases aC : a3 < 0
 rw [if_pos aC] at H
 have c1012b0 : decide (a3 < 0) = true := decide_eq_true aC
 clear aC
 have H' := Aside0.mk H
 clear H
 rotate_left
 rw [if_neg aC] at H
 have c1012b0 : decide (a3 < 0) = false := decide_eq_false aC
 clear aC
 by_cases aD : a3 > 255
 rw [if_pos aD] at H
 have c1013b0 : decide (255 < a3) = true := decide_eq_true aD
 clear aD
 have H' := Aside0.mk H
 clear H
 rotate_left
 rw [if_neg aD] at H
 have c1013b0 : decide (255 < a3) = false := decide_eq_false aD
 clear aD
 by_cases aE : a4 < 0
 rw [if_pos aE] at H
 have c1014b0 : decide (a4 < 0) = true := decide_eq_true aE
 clear aE
 have H' := Aside0.mk H
 clear H
 rotate_left
 rw [if_neg aE] at H
 have c1014b0 : decide (a4 < 0) = false := decide_eq_false aE
 clear aE
 have H' := Aside0.mk H
 clear H
 rotate_left
 rw [if_neg aw] at H
 have c1011b0 : (a2 == 11) = false := beq_eq_false_iff_ne.mpr aw
 have c1011b1 : (a2 != 11) = true := bne_iff_ne.mpr aw
 have H' := Aside0.mk H
 clear H
 rotate_left
 replace aU := Bool.eq_false_iff.mpr aU
 subst aU
 have H1 : (impl_Complain.j0 k a1 a2 a3 a4 true af ag ah ai aj ak al ac am ad aa) = some (r1, r2, r3, r4, r5, r6, r7, r8, r9, aI, aJ, aK) := by rw [if_neg (show ¬ (false = true) by decide)] at H; exact H
 clear H
 have H := H1
 clear H1
 have H' := Aside0.mk H
 clear H
 rotate_left
 replace aT := Bool.eq_false_iff.mpr aT
 subst aT
 have H1 : (impl_Complain.j0 k a1 a2 a3 a4 true af ag ah ai aj ak al ac am ad aa) = some (r1, r2, r3, r4, r5, r6, r7, r8, r9, aI, aJ, aK) := by rw [if_neg (show ¬ (false = true) by decide)] at H; exact H
 clear H
 have H := H1
 clear H1
 have H' := Aside0.mk H
 clear H
 rotate_left
 all_goals (
 have cq := ap.out
 have cr := aM.out
 obtain ⟨⟨a8, a9, ba, bb, bc, bd, be, bf, bg, bh, aV⟩, bi, bj, bk, bl, bm, bn, bo, bp, bq, br, aW⟩ := cells11 ab.out
 go_wp2_with (first | ((with_reducible refine gate_callee (f := 22) rfl ?_); refine gL (some 16) Try.func22 #[.agg #[.int .i64 af, .int .i64 ag, .bool ah, .bool ai, .int .i64 aj, .int .i64 ak, .int .i64 al, .int .i64 ac, .int .i64 am, .slice A0_9 ad.length ax, .slice A0_10 aa.length ar]] ?_; (with_reducible refine (impl_MayComplain.calls af ag ah ai aj ak al ac am _ _ ad _ _ aa _ _ ?side1 ?side2 ?side3 ?side4 A1003.out).mono ?_); (case side1 => exact Kd.C_below HR0_9.out wB); (case side2 => exact cp.out); (case side3 => exact Kd.C_below HR0_10.out wB); (case side4 => exact bA.out); rintro e aX ⟨rfl, hb⟩; refine ⟨_, rfl, ?_⟩; replace ab := Aside0.mk (blk_below (Bh ab) hb); replace ae := Aside0.mk (blk_below (Bh ae) hb); replace HB := Aside0.mk (below_step wB hb); clear hb) | (go_at_call 51; (with_reducible refine (impl_isAddr.calls a1 _ _ A1005.out).mono ?_); rintro e w' ⟨rfl, ⟨nd, rfl⟩⟩))
 go_meet
 )
 iterate 3 (
 focus (
 case rel => exact ⟨_, (true), eS, H', ⟨by first | omega | exact Nat.le_refl _⟩, ⟨Bh ab⟩, ⟨Bh ae⟩, ⟨wB⟩⟩
 )
 )
 {
 case rel => exact ⟨_, (decide (a4 > 4294967295)), eS, H', ⟨by first | omega | exact Nat.le_refl _⟩, ⟨Bh ab⟩, ⟨Bh ae⟩, ⟨wB⟩⟩
 }
 iterate 3 (
 focus (
 case rel => exact ⟨_, (true), eS, H', ⟨by first | omega | exact Nat.le_refl _⟩, ⟨Bh ab⟩, ⟨Bh ae⟩, ⟨wB⟩⟩
 )
 )
 {
 case rel => exact ⟨_, (decide (a4 > 4294967295)), eS, H', ⟨by first | omega | exact Nat.le_refl _⟩, ⟨Bh ab⟩, ⟨Bh ae⟩, ⟨wB⟩⟩
 }
 all_goals (
 case rel => exact ⟨_, (true), eS, H', ⟨by first | omega | exact Nat.le_refl _⟩, ⟨Bh ab⟩, ⟨Bh ae⟩, ⟨wB⟩⟩
 )
 )
 case rest => (
 clear cs
 try clear c0
 try clear aT
 try clear aU
 try clear av
 try clear c1007b0
 try clear c1007b1
 try clear ay
 try clear c1008b0
 try clear az
 try clear c1009b0
 try clear aA
 try clear c1010b0
 try clear aw
 try clear c1011b0
 try clear c1011b1
 try clear aC
 try clear c1012b0
 try clear aD
 try clear c1013b0
 try clear aE
 try clear c1014b0
 try clear a8 a9 aV ba bb bc bd be bf bg bh bi bj aW bk bl bm bn bo bp bq br
 obtain ⟨kq, bs, rfl, HA, HJ5, ab, ae, HB⟩ := hcut
 cases kq with
 | zero => exact absurd HA.out (by simp [impl_Complain.j0])
 | succ bI => {
 have H := HA.out
 clear HA
 simp only [impl_Complain.j0] at H
 by_cases bu : bs = true
 {
 subst bu
 have H1 : (some (0, 0, false, false, 0, 0, 0, 0, 0, ([] : List Int), ([] : List Int), 1)) = some (r1, r2, r3, r4, r5, r6, r7, r8, r9, aI, aJ, aK) := by rw [if_pos rfl] at H; exact H
 clear H
 have H := H1
 clear H1
 simp only [Option.some.injEq, Prod.mk.injEq] at H
 obtain ⟨rfl, rfl, rfl, rfl, rfl, rfl, rfl, rfl, rfl, rfl, rfl, rfl⟩ := H
 have cq := aM.out
 have cr := ap.out
 obtain ⟨⟨a8, a9, ba, bb, bc, bd, be, bf, bg, bh, aV⟩, bi, bj, bk, bl, bm, bn, bo, bp, bq, br, aW⟩ := cells11 ae.out
 go_wp2_with (first | ((with_reducible refine gate_store (t := 25) (p := 10) rfl ?_); (try (rw [drewN_self wc]; generalize hq_ : World.drewN wc _ = wc; replace ab := Aside0.mk (blk_at hq_ ab.out); replace ae := Aside0.mk (blk_at hq_ ae.out); replace HB := Aside0.mk (below_at hq_ HB.out); clear hq_; (try (obtain ⟨⟨bK, bL, bM, bN, bO, bP, bQ, bR, bS, bT, bE⟩, bU, bV, bW, bX, bY, bZ, b0, b1, b2, b3, bF⟩ := cells11 ab.out)); (try (obtain ⟨⟨b4, b5, b6, b7, b8, b9, ca, cb, cc, cd, bG⟩, ce, cf, cg, ch, ci, cj, ck, cl, cm, cn, bH⟩ := cells11 ae.out)))); refine storeE (put11 wc au (.int .i64 0) (.int .i64 0) (.bool false) (.bool false) (.int .i64 0) (.int .i64 0) (.int .i64 0) (.int .i64 0) (.int .i64 0) (.slice none 0 0) (.slice none 0 0)) ?_; intro aX hw; have n0_ : Aside0 (aX.heap[ao]? = some (.cells #[.int .i64 af, .int .i64 ag, .bool ah, .bool ai, .int .i64 aj, .int .i64 ak, .int .i64 al, .int .i64 ac, .int .i64 am, .slice A0_9 ad.length ax, .slice A0_10 aa.length ar] 25 (0, 0))) := ⟨(by rw [hw]; exact (by refine (far11 ap.out).trans ?_; exact ab.out))⟩; have n1_ : Aside0 (aX.heap[au]? = some (.cells #[.int .i64 0, .int .i64 0, .bool false, .bool false, .int .i64 0, .int .i64 0, .int .i64 0, .int .i64 0, .int .i64 0, .slice none 0 0, .slice none 0 0] 25 (0, 0))) := ⟨(by rw [hw]; exact (by apply set11; exact ae.out))⟩; have n2_ : Aside0 (Below w.heap.size w aX) := ⟨(by rw [hw]; exact wB)⟩; clear hw; clear ab; clear ae; clear HB; have ab := n0_; have ae := n1_; have HB := n2_; clear n0_ n1_ n2_))
 refine bodyPost_ret (results_ct rfl _ _ au 25 #[.int .i64 0, .int .i64 0, .bool false, .bool false, .int .i64 0, .int .i64 0, .int .i64 0, .int .i64 0, .int .i64 0, .slice none 0 0, .slice none 0 0] (0, 0) _ rfl (Bh ae) Try.underlying25 rfl (by kernel_rfl)) rfl ?_
 exact ⟨_, _, eR, by first | exact Kd.R_nil _ _ _ _ _ | exact Kd.N_nil _ _ _ _ _ | exact Kd.V_nil _ _ _ _ _ | exact Kd.Q_nil _ _ _ _ _ | exact Kd.S_nil _ _ _ _ _, by first | exact Kd.R_nil _ _ _ _ _ | exact Kd.N_nil _ _ _ _ _ | exact Kd.V_nil _ _ _ _ _ | exact Kd.Q_nil _ _ _ _ _ | exact Kd.S_nil _ _ _ _ _, wB⟩
 }
 {
 replace bu := Bool.eq_false_iff.mpr bu
 subst bu
 have H1 : ((impl_headIP.f bI af ag ah ai aj ak al ac am ad aa).bind fun aG => (if 0 ≤ (mn 8 (aa.length : Int)) then (if (mn 8 (aa.length : Int)) ≤ (aa.length : Int) then (if aG.length + (aa.take ((mn 8 (aa.length : Int)) : Int).toNat).length < 140737488355328 then ((impl_EncodeIcmp.f bI a2 a3 a4 (aG ++ (aa.take ((mn 8 (aa.length : Int)) : Int).toNat))).bind fun aY => (some (0, 0, false, false, 0, 64, 1, a1, ac, ([] : List Int), aY.1, 0))) else (none)) else (none)) else (none))) = some (r1, r2, r3, r4, r5, r6, r7, r8, r9, aI, aJ, aK) := by rw [if_neg (show ¬ (false = true) by decide)] at H; exact H
 clear H
 have H := H1
 clear H1
 replace H := Option.bind_eq_some_iff.mp H
 obtain ⟨aG, A10160, H⟩ := H
 have A1016 := Aside0.mk A10160
 clear A10160
 obtain ⟨an, hji1017⟩ : ∃ j_ : Int, (mn 8 (aa.length : Int)) = j_ := ⟨_, rfl⟩
 replace H : (if 0 ≤ (an) then (if (an) ≤ (aa.length : Int) then (if aG.length + (aa.take ((an) : Int).toNat).length < 140737488355328 then ((impl_EncodeIcmp.f bI a2 a3 a4 (aG ++ (aa.take ((an) : Int).toNat))).bind fun aY => (some (0, 0, false, false, 0, 64, 1, a1, ac, ([] : List Int), aY.1, 0))) else (none)) else (none)) else (none)) = some (r1, r2, r3, r4, r5, r6, r7, r8, r9, aI, aJ, aK) := by first | (rw [hji1017] at H; exact H) | (simp only [hji1017] at H ⊢; exact H)
 (try rw [hji1017] at A1016)
 have hji1017_ : (if (aa.length : Int) < 8 then (aa.length : Int) else 8) = an := hji1017
 by_cases aZ : 0 ≤ (an)
 {
 rw [if_pos aZ] at H
 have c1018b0 := eq_true aZ
 have c1018b1 : decide (0 ≤ (an)) = true := decide_eq_true aZ
 clear aZ
 by_cases a0 : (an) ≤ (aa.length : Int)
 {
 rw [if_pos a0] at H
 have c1019b0 := eq_true a0
 have c1019b1 : decide ((an) ≤ (aa.length : Int)) = true := decide_eq_true a0
 clear a0
 by_cases bv : aG.length + (aa.take ((an) : Int).toNat).length < 140737488355328
 {
 rw [if_pos bv] at H
 have LMc1020 := Aside0.mk bv
 clear bv
 obtain ⟨a7, a5⟩ : ∃ y_ : List Int, y_ = (aG ++ (aa.take ((an) : Int).toNat)) := ⟨_, rfl⟩
 replace H : ((impl_EncodeIcmp.f bI a2 a3 a4 a7).bind fun aY => (some (0, 0, false, false, 0, 64, 1, a1, ac, ([] : List Int), aY.1, 0))) = some (r1, r2, r3, r4, r5, r6, r7, r8, r9, aI, aJ, aK) := by first | (rw [a5]; with_reducible exact H) | (have H2_ := (Option.bind_some _ _).symm.trans H; rw [a5]; with_reducible exact H2_) | (have H2_ := (Option.bind_some _ _).symm.trans H; with_reducible exact H2_) | with_reducible exact H | (rw [a5]; exact H) | exact H
 have Ny413 := Aside0.mk a5
 clear a5
 replace H := Option.bind_eq_some_iff.mp H
 obtain ⟨⟨aQ, dq⟩, A10210, H⟩ := H
 try dsimp only at H
 have A1021 := Aside0.mk A10210
 clear A10210
 simp only [Option.some.injEq, Prod.mk.injEq] at H
 obtain ⟨rfl, rfl, rfl, rfl, rfl, rfl, rfl, rfl, rfl, rfl, rfl, rfl⟩ := H
 try go_wp2
 have n0_ := Aside0.mk (blk_drew ab.out)
 have n1_ := Aside0.mk (blk_drew ae.out)
 have n2_ := Aside0.mk (below_drew1 HB.out)
 clear ab
 clear ae
 clear HB
 have ab := n0_
 have ae := n1_
 have HB := n2_
 clear n0_ n1_ n2_
 obtain ⟨i02002, hi02002, _, hsz2002, _⟩ := info_parts info5
 obtain ⟨hcut2002, hA2002, hC2002⟩ := print_take_of (P := Try.prog) (Value.int .u8) 0 22 5 .i64 Try.underlying22 hi02002 hsz2002 A0_10 ar aa (an) dT dT bA.out
 have HR412 := Aside0.mk (Kd.C_of_reads (h1 := fun _ => rfl) (hA2002 _ (Kd.reads_of_C HR0_10.out)))
 have dA := Aside0.mk hC2002
 clear hA2002 hC2002 hi02002 hsz2002
 refine start_ (n := 11) (S := fun w' => w'.cell? ⟨ao, 0, none⟩ = some (.int .i64 af) ∧ w'.cell? ⟨ao, 1, none⟩ = some (.int .i64 ag) ∧ w'.cell? ⟨ao, 2, none⟩ = some (.bool ah) ∧ w'.cell? ⟨ao, 3, none⟩ = some (.bool ai) ∧ w'.cell? ⟨ao, 4, none⟩ = some (.int .i64 aj) ∧ w'.cell? ⟨ao, 5, none⟩ = some (.int .i64 ak) ∧ w'.cell? ⟨ao, 6, none⟩ = some (.int .i64 al) ∧ w'.cell? ⟨ao, 7, none⟩ = some (.int .i64 ac) ∧ w'.cell? ⟨ao, 8, none⟩ = some (.int .i64 am) ∧ w'.cell? ⟨ao, 9, none⟩ = some (.slice A0_9 ad.length ax) ∧ w'.cell? ⟨ao, 10, none⟩ = some (.slice A0_10 aa.length ar)) (ds := []) #[false, false, false, false, false, false, false, false, false, false, false] (by kernel_rfl) rfl rfl ⟨(blk_cell ab.out 0).trans rfl, (blk_cell ab.out 1).trans rfl, (blk_cell ab.out 2).trans rfl, (blk_cell ab.out 3).trans rfl, (blk_cell ab.out 4).trans rfl, (blk_cell ab.out 5).trans rfl, (blk_cell ab.out 6).trans rfl, (blk_cell ab.out 7).trans rfl, (blk_cell ab.out 8).trans rfl, (blk_cell ab.out 9).trans rfl, (blk_cell ab.out 10).trans rfl⟩ (fun hHeld => ?_); refine with_tabW impl_Complain.tab3 impl_Complain.bits3 (fun HT_ HW_ => ?_)
 generalize wc.drew = dB at ab ae HB HR412 hHeld ⊢
 refine pure_ (i := 2) (N := some 50) (v := ?_) (a' := ?_) #[false, false, true, false, false, false, false, false, false, false, false] rfl rfl (any_of HT_.out (by kernel_rfl)) (fun _ _ _ h => h) (Or.inl ⟨by rfl, ?_⟩) ?_ ?_
 rotate_left
 {
 intro w'
 go_simp
 with_reducible rfl
 }
 rotate_left
 {
 simp only [Act.put, List.setIfInBounds_toArray, List.set_cons_zero, List.set_cons_succ, i64_w, i32_w]
 rfl
 }
 refine pure_ (i := 4) (N := some 52) (v := ?_) (a' := ?_) #[false, false, true, false, true, false, false, false, false, false, false] rfl rfl (any_of HT_.out (by kernel_rfl)) (fun _ _ _ h => h) (Or.inl ⟨by rfl, ?_⟩) ?_ ?_
 rotate_left
 {
 intro w'
 go_simp
 with_reducible rfl
 }
 rotate_left
 {
 simp only [Act.put, List.setIfInBounds_toArray, List.set_cons_zero, List.set_cons_succ, i64_w, i32_w]
 rfl
 }
 refine take_ (i := 0) (N := some 48) (v := ?_) (a' := ?_) #[true, false, true, false, true, false, false, false, false, false, false] rfl rfl (take_ofW HT_.out HW_.out (by kernel_rfl)) (fun _ _ _ h => h) (Or.inl ⟨by rfl, ?_⟩) hHeld ?_ ?_
 rotate_left
 {
 rintro w' ⟨s0, s1, s2, s3, s4, s5, s6, s7, s8, s9, cB⟩
 go_simp
 with_reducible rfl
 }
 rotate_left
 {
 simp only [Act.put, List.setIfInBounds_toArray, List.set_cons_zero, List.set_cons_succ, i64_w, i32_w]
 rfl
 }
 refine take_ (i := 3) (N := some 51) (v := ?_) (a' := ?_) #[true, false, true, true, true, false, false, false, false, false, false] rfl rfl (take_ofW HT_.out HW_.out (by kernel_rfl)) (fun _ _ _ h => h) (Or.inl ⟨by rfl, ?_⟩) hHeld ?_ ?_
 rotate_left
 {
 rintro w' ⟨s0, s1, s2, s3, s4, s5, s6, s7, s8, s9, cB⟩
 go_simp
 with_reducible rfl
 }
 rotate_left
 {
 simp only [Act.put, List.setIfInBounds_toArray, List.set_cons_zero, List.set_cons_succ, i64_w, i32_w]
 rfl
 }
 refine take_ (i := 5) (N := some 53) (v := ?_) (a' := ?_) #[true, false, true, true, true, true, false, false, false, false, false] rfl rfl (take_ofW HT_.out HW_.out (by kernel_rfl)) (fun _ _ _ h => h) (Or.inl ⟨by rfl, ?_⟩) hHeld ?_ ?_
 rotate_left
 {
 rintro w' ⟨s0, s1, s2, s3, s4, s5, s6, s7, s8, s9, cB⟩
 go_simp
 with_reducible rfl
 }
 rotate_left
 {
 simp only [Act.put, List.setIfInBounds_toArray, List.set_cons_zero, List.set_cons_succ, i64_w, i32_w]
 rfl
 }
 refine pure_ (i := 6) (N := some 54) (v := ?_) (a' := ?_) #[true, false, true, true, true, true, true, false, false, false, false] rfl rfl (any_of HT_.out (by kernel_rfl)) (fun _ _ _ h => h) (Or.inl ⟨by rfl, ?_⟩) ?_ ?_
 rotate_left
 {
 intro w'
 go_simp
 with_reducible rfl
 }
 rotate_left
 {
 simp only [Act.put, List.setIfInBounds_toArray, List.set_cons_zero, List.set_cons_succ, i64_w, i32_w]
 rfl
 }
 refine pure_ (i := 7) (N := some 55) (v := ?_) (a' := ?_) #[true, false, true, true, true, true, true, true, false, false, false] rfl rfl (any_of HT_.out (by kernel_rfl)) (fun _ _ _ h => h) (Or.inl ⟨by rfl, ?_⟩) ?_ ?_
 rotate_left
 {
 intro w'
 go_simp
 with_reducible rfl
 }
 rotate_left
 {
 simp only [Act.put, List.setIfInBounds_toArray, List.set_cons_zero, List.set_cons_succ, i64_w, i32_w]
 rfl
 }
 refine pure_ (i := 8) (N := some 56) (v := ?_) (a' := ?_) #[true, false, true, true, true, true, true, true, true, false, false] rfl rfl (any_of HT_.out (by kernel_rfl)) (fun _ _ _ h => h) (Or.inl ⟨by rfl, ?_⟩) ?_ ?_
 rotate_left
 {
 intro w'
 go_simp
 with_reducible rfl
 }
 rotate_left
 {
 simp only [Act.put, List.setIfInBounds_toArray, List.set_cons_zero, List.set_cons_succ, i64_w, i32_w]
 rfl
 }
 refine one_ (i := 1) (N := some 49) #[true, true, true, true, true, true, true, true, true, false, false] rfl rfl (one_of HT_.out (by kernel_rfl)) (by decide) (fun K hK => ?_)
 refine goes_ Try.func42 (by kernel_rfl) rfl #[.agg #[.int .i64 af, .int .i64 ag, .bool ah, .bool ai, .int .i64 aj, .int .i64 ak, .int .i64 al, .int .i64 ac, .int .i64 am, .slice A0_9 ad.length ax, .slice A0_10 aa.length ar]] (by rfl) rfl rfl wT ?_
 with_reducible refine (impl_headIP.calls bI af ag ah ai aj ak al ac am _ _ ad _ _ aa aG _ ?side1 ?side2 ?side3 ?side4 A1016.out).mono ?_
 (case side1 => exact Kd.C_below HR0_9.out wB)
 (case side2 => exact cp.out)
 (case side3 => exact Kd.C_below HR0_10.out wB)
 (case side4 => exact bA.out)
 rintro e aX ⟨dr, rfl, bJ, hb⟩
 refine ⟨_, rfl, ?_⟩
 have n0_ := Aside0.mk (Kd.R_lower bJ (below_size wB))
 have n1_ := Aside0.mk (blk_below (Bh ab) hb)
 have n2_ := Aside0.mk (blk_below (Bh ae) hb)
 have n3_ := Aside0.mk (below_step wB hb)
 clear ab
 clear ae
 clear HB
 have bw := n0_
 have ab := n1_
 have ae := n2_
 have HB := n3_
 clear n0_ n1_ n2_ n3_
 (try clear hb)
 (try clear hb2)
 (try clear hk)
 (try clear hi)
 (try clear bJ)
 refine hK.out _ _ ⟨(blk_cell ab.out 0).trans rfl, (blk_cell ab.out 1).trans rfl, (blk_cell ab.out 2).trans rfl, (blk_cell ab.out 3).trans rfl, (blk_cell ab.out 4).trans rfl, (blk_cell ab.out 5).trans rfl, (blk_cell ab.out 6).trans rfl, (blk_cell ab.out 7).trans rfl, (blk_cell ab.out 8).trans rfl, (blk_cell ab.out 9).trans rfl, (blk_cell ab.out 10).trans rfl⟩ (fun hHeld => ?_)
 clear hK K
 refine norm_ (a' := ?_) ?_ ?_
 rotate_left
 {
 show Act.put _ (some 49) _ = _
 simp only [Act.put, List.setIfInBounds_toArray, List.set_cons_zero, List.set_cons_succ, i64_w, i32_w]
 rfl
 }
 refine one_ (i := 9) (N := some 57) #[true, true, true, true, true, true, true, true, true, true, false] rfl rfl (one_of HT_.out (by kernel_rfl)) (by decide) (fun K hK => ?_)
 refine Kd.R_append_rows_step (Kd.int .u8) (w0 := w) w.heap.size (by rfl) (.tmp 49) (.tmp 56) 22 5 (.int .u8 0) 1 rfl Try.underlying22 info5 rfl (by decide) (by omega) dr aG (aa.take ((an) : Int).toNat) _ _ _ (fun _ => True) (fun _ => False) rfl rfl ?aO ?aR (fun _ _ h => h) (fun _ h => h.elim) ?aF ?aB ?aS ?aL ?_
 (case aR => first | (refine Eq.subst (motive := fun n_ => Kd.C _ _ _ n_ _) (show (aa.take ((an) : Int).toNat).length = (an).toNat from (by rw [List.length_take]; have h_ : ((an) : Int) ≤ (aa.length : Int) := dT; omega)) ?_; exact Kd.C_below HR412.out wB) | (rw [← show (aa.take ((an) : Int).toNat).length = (an).toNat from (by rw [List.length_take]; have h_ : ((an) : Int) ≤ (aa.length : Int) := dT; omega)]; exact Kd.C_below HR412.out wB) | (exact Kd.C_below HR412.out wB))
 (case aB => exact wB)
 (case aF => exact (fun _ _ => trivial))
 (case aO => exact (Rh bw))
 (case aS => exact (below_size wB))
 (case aL => have := LMc1020.out; have hlx_ := (show (aa.take ((an) : Int).toNat).length = (an).toNat from (by rw [List.length_take]; have h_ : ((an) : Int) ≤ (aa.length : Int) := dT; omega)); omega)
 intro dD dC ho hb hg hat
 rw [← Ny413.out] at ho
 have n0_ := Aside0.mk (blk_grown (Bh ab) hg (Kd.R_ne bw.out ab.out (by decide)))
 have n1_ := Aside0.mk (blk_grown (Bh ae) hg (Kd.R_ne bw.out ae.out (by decide)))
 have n2_ := Aside0.mk (hb)
 have n3_ := Aside0.mk (ho)
 clear ab
 clear ae
 clear HB
 clear bw
 have ab := n0_
 have ae := n1_
 have HB := n2_
 have aq := n3_
 clear n0_ n1_ n2_ n3_
 clear ho hb hg hat
 refine hK.out _ _ ⟨(blk_cell ab.out 0).trans rfl, (blk_cell ab.out 1).trans rfl, (blk_cell ab.out 2).trans rfl, (blk_cell ab.out 3).trans rfl, (blk_cell ab.out 4).trans rfl, (blk_cell ab.out 5).trans rfl, (blk_cell ab.out 6).trans rfl, (blk_cell ab.out 7).trans rfl, (blk_cell ab.out 8).trans rfl, (blk_cell ab.out 9).trans rfl, (blk_cell ab.out 10).trans rfl⟩ (fun hHeld => ?_)
 clear hK K
 refine norm_ (a' := ?_) ?_ ?_
 rotate_left
 {
 show Act.put _ (some 57) _ = _
 simp only [Act.put, List.setIfInBounds_toArray, List.set_cons_zero, List.set_cons_succ, i64_w, i32_w]
 rfl
 }
 refine pure_ (i := 10) (N := some 12) (v := ?_) (a' := ?_) #[true, true, true, true, true, true, true, true, true, true, true] rfl rfl (any_of HT_.out (by kernel_rfl)) (fun _ _ _ h => h) (Or.inl ⟨by rfl, ?_⟩) ?_ ?_
 rotate_left
 {
 intro w'
 go_simp
 with_reducible rfl
 }
 rotate_left
 {
 simp only [Act.put, List.setIfInBounds_toArray, List.set_cons_zero, List.set_cons_succ, i64_w, i32_w]
 rfl
 }
 refine done_ (done_of HT_.out (by kernel_rfl)) ?_
 obtain ⟨bC, bD, ct⟩ := Kd.R_slice aq.out
 subst ct
 try go_wp2_with (first | ((with_reducible refine gate_callee (f := 64) rfl ?_); refine gL (some 64) Try.func64 #[.agg #[.int .i64 a2, .int .i64 a3, .int .i64 a4, .slice bC a7.length bD]] ?_; (with_reducible refine (impl_EncodeIcmp.calls bI a2 a3 a4 _ _ a7 aQ dq _ ?side1 ?side2 A1021.out).mono ?_); (case side1 => exact Ch aq); (case side2 => exact (Kd.R_reads' aq.out).2.1); rintro e bz ⟨dE, rfl, bJ, hb⟩; refine ⟨_, rfl, ?_⟩; have aH := Aside0.mk (Kd.R_lower (Kd.R_new' bJ (Kd.R_lt (Rh aq))) (below_size wB)); replace aq := Aside0.mk (Kd.R_elder' (Rh aq) (Kd.R_base bJ) hb); replace ab := Aside0.mk (blk_below (Bh ab) hb); replace ae := Aside0.mk (blk_below (Bh ae) hb); replace HB := Aside0.mk (below_step wB hb); clear hb; (try clear bJ); have dt := ap.out; have du := aM.out; obtain ⟨⟨cC, cD, cE, cF, cG, cH, cI, cJ, cK, cL, cx⟩, cM, cN, cO, cP, cQ, cR, cS, cT, cU, cV, cy⟩ := cells11 ab.out; obtain ⟨aN, aP, cu⟩ := Kd.R_slice aH.out; subst cu; obtain ⟨⟨cW, cX, cY, cZ, c1, da, db, dc, dd, de, cz⟩, df, dg, dh, di, dj, dk, dl, dm, dn, dp, cA⟩ := cells11 ae.out) | ((with_reducible refine gate_store (t := 25) (p := 10) rfl ?_); (try (rw [drewN_self bz]; generalize hq_ : World.drewN bz _ = bz; replace aq := Aside0.mk (Kd.R_at hq_ aq.out); replace aH := Aside0.mk (Kd.R_at hq_ aH.out); replace ab := Aside0.mk (blk_at hq_ ab.out); replace ae := Aside0.mk (blk_at hq_ ae.out); replace HB := Aside0.mk (below_at hq_ HB.out); clear hq_; (try (obtain ⟨⟨bK, bL, bM, bN, bO, bP, bQ, bR, bS, bT, bE⟩, bU, bV, bW, bX, bY, bZ, b0, b1, b2, b3, bF⟩ := cells11 ab.out)); (try (obtain ⟨⟨b4, b5, b6, b7, b8, b9, ca, cb, cc, cd, bG⟩, ce, cf, cg, ch, ci, cj, ck, cl, cm, cn, bH⟩ := cells11 ae.out)))); refine storeE (put11 bz au (.int .i64 0) (.int .i64 0) (.bool false) (.bool false) (.int .i64 0) (.int .i64 64) (.int .i64 1) (.int .i64 a1) (.int .i64 ac) (.slice none 0 0) (.slice aN aQ.length aP)) ?_; intro a6 hw; have n0_ : Aside0 (Kd.R (Kd.int .u8) 5 a6 w.heap.size (fun k_ => some k_ ≠ (.slice aN aQ.length aP : Value).ownBlock) (.slice bC a7.length bD) a7) := ⟨(by rw [hw]; exact (by exact Kd.R_mono (Kd.R_step (Kd.R_types aq.out ae.out (by decide)) (fun _ hk _ => far11 hk.2)) (fun _ hk => hk.1.2)))⟩; have n1_ : Aside0 (Kd.R (Kd.int .u8) 5 a6 w.heap.size (fun k_ => some k_ ≠ (.slice bC a7.length bD : Value).ownBlock) (.slice aN aQ.length aP) aQ) := ⟨(by rw [hw]; exact (by exact Kd.R_mono (Kd.R_step (Kd.R_types aH.out ae.out (by decide)) (fun _ hk _ => far11 hk.2)) (fun _ hk => hk.1.2)))⟩; have n2_ : Aside0 (a6.heap[ao]? = some (.cells #[.int .i64 af, .int .i64 ag, .bool ah, .bool ai, .int .i64 aj, .int .i64 ak, .int .i64 al, .int .i64 ac, .int .i64 am, .slice A0_9 ad.length ax, .slice A0_10 aa.length ar] 25 (0, 0))) := ⟨(by rw [hw]; exact (by refine (far11 ap.out).trans ?_; exact ab.out))⟩; have n3_ : Aside0 (a6.heap[au]? = some (.cells #[.int .i64 0, .int .i64 0, .bool false, .bool false, .int .i64 0, .int .i64 64, .int .i64 1, .int .i64 a1, .int .i64 ac, .slice none 0 0, .slice aN aQ.length aP] 25 (0, 0))) := ⟨(by rw [hw]; exact (by apply set11; exact ae.out))⟩; have n4_ : Aside0 (Below w.heap.size w a6) := ⟨(by rw [hw]; exact wB)⟩; clear hw; clear aq; clear aH; clear ab; clear ae; clear HB; have aq := n0_; have aH := n1_; have ab := n2_; have ae := n3_; have HB := n4_; clear n0_ n1_ n2_ n3_ n4_))
 refine bodyPost_ret (results_ct rfl _ _ au 25 #[.int .i64 0, .int .i64 0, .bool false, .bool false, .int .i64 0, .int .i64 64, .int .i64 1, .int .i64 a1, .int .i64 ac, .slice none 0 0, .slice aN aQ.length aP] (0, 0) _ rfl (Bh ae) Try.underlying25 rfl (by kernel_rfl)) rfl ?_
 exact ⟨_, _, by first | rfl | (simp [errW_none, errW_some] <;> rfl) | (simp only [← hji1017]; first | rfl | (simp [errW_none, errW_some] <;> rfl)) | (simp [*, errW_none, errW_some] <;> rfl), by first | exact Kd.R_nil _ _ _ _ _ | exact Kd.N_nil _ _ _ _ _ | exact Kd.V_nil _ _ _ _ _ | exact Kd.Q_nil _ _ _ _ _ | exact Kd.S_nil _ _ _ _ _, Kd.R_mono (Rh aH) (fun _ hk => (by simp [Value.ownBlock])), wB⟩
 }
 {
 rw [if_neg bv] at H
 exact absurd H (by simp)
 }
 }
 {
 rw [if_neg a0] at H
 exact absurd H (by simp)
 }
 }
 {
 rw [if_neg aZ] at H
 exact absurd H (by simp)
 }
 }
 }
 )

end Go.Proofs.Ytckhadlmhbhngaa.PFnComplain
