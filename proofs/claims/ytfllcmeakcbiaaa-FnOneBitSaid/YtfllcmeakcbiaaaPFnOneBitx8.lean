-- Written for this claim by a program of this session (wip/mkprint.py: the print, turned at a few places). Not trusted: Lean checks it.
import Derived.Test.YtfllcmeakcbiaaaPFnOneBitx0
import Derived.Test.YtfllcmeakcbiaaaPFnOneBitx1
import Derived.Test.YtfllcmeakcbiaaaPFnOneBitx5
namespace Go.Proofs.Ytfllcmeakcbiaaa.PFnOneBit
open Go.RowKit Go.Proofs.YtfllcmeakcbiaaaW.PrintWords Go.Proofs.YtfllcmeakcbiaaaW.PrintLast Go.Proofs.YtfllcmeakcbiaaaW.PrintMore
attribute [local go_sem] max2_int min2_int max_two min_two max_three min_three max_four min_four   -- for this text's walks alone
set_option linter.unusedVariables false
set_option linter.unusedSimpArgs false

/-! ### impl_DecodeUdp: function 19 -/
mutual
def impl_DecodeUdp.j0 : Nat → List Int → Int → Int → Bool → Option (Int × Int × List Int × Int)
  | 0, _, _, _, _ => none
  | k + 1, x0, x1, x2, x8 => if x8 = true then (some (0, 0, ([] : List Int), 1)) else (if (x0.length : Int) < 8 then (some (0, 0, ([] : List Int), 2)) else (if 4 ≤ 6 then (if 6 ≤ (x0.length : Int) then ((impl_get.f k ((x0.take 6).drop 4)).bind fun ab => (if ab = (x0.length : Int) then (if 6 ≤ 8 then (if 8 ≤ (x0.length : Int) then ((impl_get.f k ((x0.take 8).drop 6)).bind fun ac => (if ac = 0 then (impl_DecodeUdp.j1 k x0 false) else ((impl_FalseHead.f k x1 x2 17 (x0.length : Int)).bind fun aa => (if aa.length + x0.length < 140737488355328 then ((impl_Checksum.f k (aa ++ x0)).bind fun ad => (impl_DecodeUdp.j1 k x0 (ad != 0))) else (none))))) else (none)) else (none)) else (some (0, 0, ([] : List Int), 5)))) else (none)) else (none)))
def impl_DecodeUdp.j1 : Nat → List Int → Bool → Option (Int × Int × List Int × Int)
  | 0, _, _ => none
  | k + 1, x0, ad => if ad = true then (some (0, 0, ([] : List Int), 3)) else (if 2 ≤ (x0.length : Int) then ((impl_get.f k (x0.take 2)).bind fun aa => (if 2 ≤ 4 then (if 4 ≤ (x0.length : Int) then ((impl_get.f k ((x0.take 4).drop 2)).bind fun ab => (if 8 ≤ (x0.length : Int) then ((impl_dup.f (x0.drop 8)).bind fun ac => (some (aa, ab, ac, 0))) else (none))) else (none)) else (none))) else (none))
end
def impl_DecodeUdp.f (k : Nat) (l0 : List Int) (a1 : Int) (a2 : Int) : Option (Int × Int × List Int × Int) := (impl_isAddr.f a1).bind fun t345 => (if t345 = true then ((impl_isAddr.f a2).bind fun t346 => (impl_DecodeUdp.j0 k l0 a1 a2 (!t346))) else (impl_DecodeUdp.j0 k l0 a1 a2 true))
theorem impl_DecodeUdp.mono_l : ∀ k, (∀ y0 y1 y2 y3, LeO (impl_DecodeUdp.j0 k y0 y1 y2 y3) (impl_DecodeUdp.j0 (k + 1) y0 y1 y2 y3)) ∧ (∀ y0 y1, LeO (impl_DecodeUdp.j1 k y0 y1) (impl_DecodeUdp.j1 (k + 1) y0 y1))
  | 0 => ⟨fun _ _ _ _ r h => by simp [impl_DecodeUdp.j0] at h, fun _ _ r h => by simp [impl_DecodeUdp.j1] at h⟩
  | k + 1 => by
    obtain ⟨ih0, ih1⟩ := impl_DecodeUdp.mono_l k
    refine ⟨?_, ?_⟩
    · intro y0 y1 y2 y3
      unfold impl_DecodeUdp.j0
      repeat' first
      | (with_reducible exact ih0 _ _ _ _)
      | (with_reducible exact ih1 _ _)
      | (with_reducible exact impl_Checksum.mono _ _)
      | (with_reducible exact impl_FalseHead.mono _ _ _ _ _)
      | (with_reducible exact impl_get.mono _ _)
      | (with_reducible exact LeO.refl _)
      | (with_reducible exact LeO.none _)
      | (with_reducible refine LeO.ite ?_ ?_)
      | (with_reducible refine LeO.bind ?_ (fun _ => ?_))
      | exact ih0 _ _ _ _
      | exact ih1 _ _
      | exact impl_Checksum.mono _ _
      | exact impl_FalseHead.mono _ _ _ _ _
      | exact impl_get.mono _ _
      | exact LeO.none _
      | refine LeO.ite ?_ ?_
      | refine LeO.bind ?_ (fun _ => ?_)
    · intro y0 y1
      unfold impl_DecodeUdp.j1
      repeat' first
      | (with_reducible exact ih0 _ _ _ _)
      | (with_reducible exact ih1 _ _)
      | (with_reducible exact impl_Checksum.mono _ _)
      | (with_reducible exact impl_FalseHead.mono _ _ _ _ _)
      | (with_reducible exact impl_get.mono _ _)
      | (with_reducible exact LeO.refl _)
      | (with_reducible exact LeO.none _)
      | (with_reducible refine LeO.ite ?_ ?_)
      | (with_reducible refine LeO.bind ?_ (fun _ => ?_))
      | exact ih0 _ _ _ _
      | exact ih1 _ _
      | exact impl_Checksum.mono _ _
      | exact impl_FalseHead.mono _ _ _ _ _
      | exact impl_get.mono _ _
      | exact LeO.none _
      | refine LeO.ite ?_ ?_
      | refine LeO.bind ?_ (fun _ => ?_)
theorem impl_DecodeUdp.mono : ∀ a0 a1 a2 k, LeO (impl_DecodeUdp.f k a0 a1 a2) (impl_DecodeUdp.f (k + 1) a0 a1 a2) := by
 intro a0 a1 a2 k
 obtain ⟨ih0, ih1⟩ := impl_DecodeUdp.mono_l k
 unfold impl_DecodeUdp.f
 repeat' first
     | (with_reducible exact ih0 _ _ _ _)
     | (with_reducible exact ih1 _ _)
     | (with_reducible exact impl_Checksum.mono _ _)
     | (with_reducible exact impl_FalseHead.mono _ _ _ _ _)
     | (with_reducible exact impl_get.mono _ _)
     | (with_reducible exact LeO.refl _)
     | (with_reducible exact LeO.none _)
     | (with_reducible refine LeO.ite ?_ ?_)
     | (with_reducible refine LeO.bind ?_ (fun _ => ?_))
     | exact ih0 _ _ _ _
     | exact ih1 _ _
     | exact impl_Checksum.mono _ _
     | exact impl_FalseHead.mono _ _ _ _ _
     | exact impl_get.mono _ _
     | exact LeO.none _
     | refine LeO.ite ?_ ?_
     | refine LeO.bind ?_ (fun _ => ?_)
def impl_DecodeUdp.T9 : Bool × List (List Nat × List Nat) := (true, [([], []), ([0], [0]), ([1], [1]), ([], []), ([3], [3]), ([4, 2], [4]), ([], []), ([6], [6]), ([7, 5], [7]), ([2, 5, 8], [2, 5, 8]), ([9, 8, 0, 1, 2, 3, 4, 5, 6, 7, 8, 9], [9]), ([10, 0, 1, 2, 3, 4, 5, 6, 7, 8, 9, 10], [])])
def impl_DecodeUdp.B9 : List Nat := [0, 1, 3, 0, 8, 31, 0, 64, 255, 511, 1023, 2047]
theorem impl_DecodeUdp.tab9 : rtab .any (opsOf Try.f19 9) = impl_DecodeUdp.T9 := by kernel_rfl
theorem impl_DecodeUdp.bits9 : waitsOk impl_DecodeUdp.T9.2 impl_DecodeUdp.B9 = true := by kernel_rfl
set_option maxHeartbeats 60000000 in
set_option maxRecDepth 100000 in
theorem impl_DecodeUdp.calls (k : Nat) (A0 : Option Addr) (c0 : Nat) (l0 : List Int) (a1 : Int) (a2 : Int) (r1 : Int) (r2 : Int) (r3 : List Int) (r4 : Int) (w : World) (hr0 : Kd.C (Kd.int .u8) w A0 l0.length l0) (hc0 : l0.length ≤ c0) (h : impl_DecodeUdp.f k l0 a1 a2 = some (r1, r2, r3, r4)) :
 Calls Try.prog 19 #[.slice A0 l0.length c0, .int .i64 a1, .int .i64 a2] w fun e w' => ∃ v2_ : Value, e = .returned (.tuple #[.agg #[.int .i64 r1, .int .i64 r2, v2_], .int .i64 r4]) ∧ Kd.R (Kd.int .u8) 5 w' w.heap.size (fun _ => True) v2_ r3 ∧ Below w.heap.size w w' := by
 have hu39 := Try.underlying39
 have HR0 := Aside0.mk hr0
 have aY := Aside0.mk hc0
 clear hr0 hc0
 have HB := Aside0.mk (Below.refl w.heap.size w)
 have H : ((impl_isAddr.f a1).bind fun aQ => (if aQ = true then ((impl_isAddr.f a2).bind fun am => (impl_DecodeUdp.j0 k l0 a1 a2 (!am))) else (impl_DecodeUdp.j0 k l0 a1 a2 true))) = some (r1, r2, r3, r4) := h
 clear h
 have bg := Aside0.mk H
 clear H
 go_enter Try.func19, Try.ntmps19
 go_upto_region 1 with (first | ((with_reducible refine gate_dst (N := 6) rfl ?_); (try (refine gate_guard (by rfl) ?_; dsimp only)); refine box_event ?hg (N := 6) ?hd (cs := #[.int .i64 0, .int .i64 0, .slice none 0 0]) (t := 39) ?hr ?_; (case hd => rfl); (case hg => rfl); (case hr => first | (go_simp; done) | (go_simp; rfl)); intro ab hg bG hbox hb; have aa := Aside0.mk (hbox); have bj := Aside0.mk ((by rw [hg]; exact (below_size wB) : w.heap.size ≤ ab)); replace HB := Aside0.mk (below_step wB hb); have bH := bj; clear hb hbox hg))
 (try simp only [Act.put, List.setIfInBounds_toArray, List.set_cons_zero, List.set_cons_succ])
 go_cut [8] (fun v8 wc => ∃ (kq : Nat) (aT : Bool), v8 = .bool aT ∧ Aside0 (impl_DecodeUdp.j0 kq l0 a1 a2 aT = some (r1, r2, r3, r4)) ∧ Aside0 (kq ≤ k) ∧ Aside0 (wc.heap[ab]? = some (.cells #[.int .i64 0, .int .i64 0, (.slice none 0 0)] 39 (0, 0))) ∧ Aside0 (Below w.heap.size w wc))
 case first => (
 have H := bg.out
 clear bg
 replace H := Option.bind_eq_some_iff.mp H
 obtain ⟨aQ, A10020, H⟩ := H
 replace H : (if aQ = true then ((impl_isAddr.f a2).bind fun am => (impl_DecodeUdp.j0 k l0 a1 a2 (!am))) else (impl_DecodeUdp.j0 k l0 a1 a2 true)) = some (r1, r2, r3, r4) := H
 have A1002 := Aside0.mk A10020
 clear A10020
 by_cases ay : aQ = true
 subst ay
 have H1 : ((impl_isAddr.f a2).bind fun am => (impl_DecodeUdp.j0 k l0 a1 a2 (!am))) = some (r1, r2, r3, r4) := by rw [if_pos rfl] at H; exact H
 clear H
 have H := H1
 clear H1
 replace H := Option.bind_eq_some_iff.mp H
 obtain ⟨am, A10040, H⟩ := H
 replace H : (impl_DecodeUdp.j0 k l0 a1 a2 (!am)) = some (r1, r2, r3, r4) := H
 have A1004 := Aside0.mk A10040
 clear A10040
 have H' := Aside0.mk H
 clear H
 rotate_left
 replace ay := Bool.eq_false_iff.mpr ay
 subst ay
 have H1 : (impl_DecodeUdp.j0 k l0 a1 a2 true) = some (r1, r2, r3, r4) := by rw [if_neg (show ¬ (false = true) by decide)] at H; exact H
 clear H
 have H := H1
 clear H1
 have H' := Aside0.mk H
 clear H
 rotate_left
 all_goals (
 go_wp2_with (first | ((with_reducible refine gate_callee (f := 28) rfl ?_); refine goesL_ (some 10) rfl rfl Try.func28 (by kernel_rfl) rfl #[.int .i64 a1] rfl wT ?_; (with_reducible refine (impl_isAddr.calls a1 _ _ A1002.out).mono ?_); rintro e w' ⟨rfl, ⟨nd, rfl⟩⟩; refine ⟨_, rfl, ?_⟩) | (go_at_call 28; (with_reducible refine (impl_isAddr.calls a2 am _ A1004.out).mono ?_); rintro e w' ⟨rfl, ⟨nd, rfl⟩⟩))
 go_meet
 )
 {
 case rel => exact ⟨_, (!am), (by first | rfl | (simp; done) | (simp [*]; done)), H', ⟨by first | omega | exact Nat.le_refl _⟩, ⟨Bh aa⟩, ⟨wB⟩⟩
 }
 {
 case rel => exact ⟨_, (true), (by first | rfl | (simp; done) | (simp [*]; done)), H', ⟨by first | omega | exact Nat.le_refl _⟩, ⟨Bh aa⟩, ⟨wB⟩⟩
 }
 )
 case rest => (
 clear bg
 try clear ay
 obtain ⟨kq, aT, rfl, HA, HJ3, aa, HB⟩ := hcut
 cases kq with
 | zero => exact absurd HA.out (by simp [impl_DecodeUdp.j0])
 | succ ac => {
 have H := HA.out
 clear HA
 simp only [impl_DecodeUdp.j0] at H
 by_cases aE : aT = true
 subst aE
 have H1 : (some (0, 0, ([] : List Int), 1)) = some (r1, r2, r3, r4) := by rw [if_pos rfl] at H; exact H
 clear H
 have H := H1
 clear H1
 simp only [Option.some.injEq, Prod.mk.injEq] at H
 obtain ⟨rfl, rfl, rfl, rfl⟩ := H
 rotate_left
 replace aE := Bool.eq_false_iff.mpr aE
 subst aE
 have H1 : (if (l0.length : Int) < 8 then (some (0, 0, ([] : List Int), 2)) else (if 4 ≤ 6 then (if 6 ≤ (l0.length : Int) then ((impl_get.f ac ((l0.take 6).drop 4)).bind fun ai => (if ai = (l0.length : Int) then (if 6 ≤ 8 then (if 8 ≤ (l0.length : Int) then ((impl_get.f ac ((l0.take 8).drop 6)).bind fun af => (if af = 0 then (impl_DecodeUdp.j1 ac l0 false) else ((impl_FalseHead.f ac a1 a2 17 (l0.length : Int)).bind fun ad => (if ad.length + l0.length < 140737488355328 then ((impl_Checksum.f ac (ad ++ l0)).bind fun ae => (impl_DecodeUdp.j1 ac l0 (ae != 0))) else (none))))) else (none)) else (none)) else (some (0, 0, ([] : List Int), 5)))) else (none)) else (none))) = some (r1, r2, r3, r4) := by rw [if_neg (show ¬ (false = true) by decide)] at H; exact H
 clear H
 have H := H1
 clear H1
 by_cases an : (l0.length : Int) < 8
 rw [if_pos an] at H
 have c1006b0 : decide ((l0.length : Int) < 8) = true := decide_eq_true an
 have c1006b1 : decide (l0.length < 8) = true := decide_eq_true (by omega)
 clear an
 simp only [Option.some.injEq, Prod.mk.injEq] at H
 obtain ⟨rfl, rfl, rfl, rfl⟩ := H
 rotate_left
 rw [if_neg an] at H
 have c1006b0 : decide ((l0.length : Int) < 8) = false := decide_eq_false an
 have c1006b1 : decide (l0.length < 8) = false := decide_eq_false (by omega)
 clear an
 by_cases az : 4 ≤ 6
 rw [if_pos az] at H
 have c1007b0 := eq_true az
 have c1007b1 : decide (4 ≤ 6) = true := decide_eq_true az
 clear az
 by_cases aA : 6 ≤ (l0.length : Int)
 rw [if_pos aA] at H
 have c1008b0 := eq_true aA
 have c1008b1 : decide (6 ≤ (l0.length : Int)) = true := decide_eq_true aA
 clear aA
 replace H := Option.bind_eq_some_iff.mp H
 obtain ⟨ai, A10090, H⟩ := H
 replace H : (if ai = (l0.length : Int) then (if 6 ≤ 8 then (if 8 ≤ (l0.length : Int) then ((impl_get.f ac ((l0.take 8).drop 6)).bind fun af => (if af = 0 then (impl_DecodeUdp.j1 ac l0 false) else ((impl_FalseHead.f ac a1 a2 17 (l0.length : Int)).bind fun ad => (if ad.length + l0.length < 140737488355328 then ((impl_Checksum.f ac (ad ++ l0)).bind fun ae => (impl_DecodeUdp.j1 ac l0 (ae != 0))) else (none))))) else (none)) else (none)) else (some (0, 0, ([] : List Int), 5))) = some (r1, r2, r3, r4) := H
 have A1009 := Aside0.mk A10090
 clear A10090
 by_cases ag : ai = (l0.length : Int)
 rw [if_pos ag] at H
 have c1010b0 : (ai == (l0.length : Int)) = true := beq_iff_eq.mpr ag
 have c1010b1 : (ai != (l0.length : Int)) = false := bne_eq_false_iff_eq.mpr ag
 clear ag
 have aP := Aside0.mk H
 clear H
 rotate_left
 rw [if_neg ag] at H
 have c1010b0 : (ai == (l0.length : Int)) = false := beq_eq_false_iff_ne.mpr ag
 have c1010b1 : (ai != (l0.length : Int)) = true := bne_iff_ne.mpr ag
 simp only [Option.some.injEq, Prod.mk.injEq] at H
 obtain ⟨rfl, rfl, rfl, rfl⟩ := H
 rotate_left
 rw [if_neg aA] at H
 exact absurd H (by simp)
 rw [if_neg az] at H
 exact absurd H (by simp)
 iterate 2 (
 focus (
 obtain ⟨⟨aZ, a0, a3⟩, a4, a5, a6⟩ := cells3 aa.out
 go_wp2_with (first | ((with_reducible refine gate_store (t := 39) (p := 6) rfl ?_); (try (rw [drewN_self wc]; generalize hq_ : World.drewN wc _ = wc; replace aa := Aside0.mk (blk_at hq_ aa.out); replace HB := Aside0.mk (below_at hq_ HB.out); clear hq_; (try (obtain ⟨⟨ao, ap, aq⟩, ar, au, av⟩ := cells3 aa.out)))); refine store_event (t := 39) (p := 6) (v := ?_) (w1 := (((wc.setCell ⟨ab, 0, none⟩ (.int .i64 0)).setCell ⟨ab, 1, none⟩ (.int .i64 0)).setCell ⟨ab, 2, none⟩ (.slice none 0 0))) ?hg ?ho ?hn ?hr ?_; (case ho => rfl); (case hg => rfl); (case hn => rfl); (case hr => first | (go_simp; done) | (go_simp; rfl)); intro bb hw; have n0_ : Aside0 (bb.heap[ab]? = some (.cells #[.int .i64 0, .int .i64 0, .slice none 0 0] 39 (0, 0))) := ⟨(by rw [hw]; exact (by (with_reducible repeat (first | refine blk_drewN ?_ _ | refine blk_drew ?_ | refine blk_alloc ?_ _)); refine blk_put (cs := #[.int .i64 0, .int .i64 0, .slice none 0 0]) ?_ 2 _ rfl; (with_reducible repeat (first | refine blk_drewN ?_ _ | refine blk_drew ?_ | refine blk_alloc ?_ _)); refine blk_put (cs := #[.int .i64 0, .int .i64 0, .slice none 0 0]) ?_ 1 _ rfl; (with_reducible repeat (first | refine blk_drewN ?_ _ | refine blk_drew ?_ | refine blk_alloc ?_ _)); refine blk_put (cs := #[.int .i64 0, .int .i64 0, .slice none 0 0]) ?_ 0 _ rfl; (with_reducible repeat (first | refine blk_drewN ?_ _ | refine blk_drew ?_ | refine blk_alloc ?_ _)); exact aa.out))⟩; have n1_ : Aside0 (Below w.heap.size w bb) := ⟨(by rw [hw]; exact wB)⟩; clear hw; clear aa; clear HB; have aa := n0_; have HB := n1_; clear n0_ n1_))
 refine bodyPost_ret (results_ct rfl _ _ ab 39 #[.int .i64 0, .int .i64 0, .slice none 0 0] (0, 0) _ rfl (Bh aa) Try.underlying39 rfl (by kernel_rfl)) rfl ?_
 exact ⟨_, by first | rfl | (simp [errW_none, errW_some] <;> rfl) | (simp [*, errW_none, errW_some] <;> rfl), by first | exact Kd.R_nil _ _ _ _ _ | exact Kd.N_nil _ _ _ _ _ | exact Kd.V_nil _ _ _ _ _ | exact Kd.Q_nil _ _ _ _ _ | exact Kd.S_nil _ _ _ _ _, wB⟩
 )
 )
 all_goals (
 obtain ⟨i02001, hi02001, _, hsz2001, _⟩ := info_parts info5
 obtain ⟨A2001, hcut2001, hA2001, hC2001⟩ := print_mid_of (P := Try.prog) (Value.int .u8) 0 22 5 .i64 .i64 Try.underlying22 hi02001 hsz2001 A0 c0 l0 4 6 (by omega) (by first | omega | exact of_decide_eq_true (by first | (with_reducible assumption) | assumption)) (of_decide_eq_true (by first | (with_reducible assumption) | assumption)) aY.out
 have HR347 := Aside0.mk (Kd.C_of_reads (h1 := fun _ => rfl) (hA2001 _ (Kd.reads_of_C HR0.out)))
 have bc := Aside0.mk hC2001
 clear hA2001 hC2001 hi02001 hsz2001
 )
 {
 go_upto_region 7 with (first | ((with_reducible refine gate_callee (f := 31) rfl ?_); refine goesL_ (some 26) rfl rfl Try.func31 (by kernel_rfl) rfl #[.slice A2001 ((l0.take 6).drop 4).length (c0 - 4)] rfl (by (try simp only [List.map_toArray, List.map_cons, List.map_nil]); first | done | (rw [show ((l0.take 6).drop 4).length = (6 - 4) from (by rw [List.length_drop, List.length_take]; have h_ : (6 : Int) ≤ (l0.length : Int) := of_decide_eq_true (by first | (with_reducible assumption) | assumption); omega)] <;> rfl) | rfl | (simp only [List.length_drop, List.length_take]; rfl)) ?_; (with_reducible refine (impl_get.calls ac _ _ ((l0.take 6).drop 4) ai _ ?side1 ?side2 A1009.out).mono ?_); (case side1 => exact Kd.C_below HR347.out wB); (case side2 => exact bc.out); rintro e w' ⟨rfl, ⟨nd, rfl⟩⟩; refine ⟨_, rfl, ?_⟩))
 (try simp only [Act.put, List.setIfInBounds_toArray, List.set_cons_zero, List.set_cons_succ])
 go_cut [45] (fun bD wc => ∃ (kq : Nat) (aw : Bool), bD = .bool aw ∧ Aside0 (impl_DecodeUdp.j1 kq l0 aw = some (r1, r2, r3, r4)) ∧ Aside0 (kq ≤ ac) ∧ Aside0 (wc.heap[ab]? = some (.cells #[.int .i64 0, .int .i64 0, (.slice none 0 0)] 39 (0, 0))) ∧ Aside0 (Below w.heap.size w wc))
 case first => (
 have H := aP.out
 clear aP
 by_cases aC : 6 ≤ 8
 rw [if_pos aC] at H
 have c2002b0 := eq_true aC
 have c2002b1 : decide (6 ≤ 8) = true := decide_eq_true aC
 clear aC
 by_cases aD : 8 ≤ (l0.length : Int)
 rw [if_pos aD] at H
 have c2003b0 := eq_true aD
 have c2003b1 : decide (8 ≤ (l0.length : Int)) = true := decide_eq_true aD
 clear aD
 replace H := Option.bind_eq_some_iff.mp H
 obtain ⟨af, A20040, H⟩ := H
 replace H : (if af = 0 then (impl_DecodeUdp.j1 ac l0 false) else ((impl_FalseHead.f ac a1 a2 17 (l0.length : Int)).bind fun ad => (if ad.length + l0.length < 140737488355328 then ((impl_Checksum.f ac (ad ++ l0)).bind fun ae => (impl_DecodeUdp.j1 ac l0 (ae != 0))) else (none)))) = some (r1, r2, r3, r4) := H
 have A2004 := Aside0.mk A20040
 clear A20040
 by_cases ah : af = 0
 rw [if_pos ah] at H
 have c2005b0 : (af == 0) = true := beq_iff_eq.mpr ah
 have c2005b1 : (af != 0) = false := bne_eq_false_iff_eq.mpr ah
 clear ah
 (first | rw [c2005b0] | (simp only [i64_w, i32_w]; rw [c2005b0]) | skip)
 have H' := Aside0.mk H
 clear H
 rotate_left
 rw [if_neg ah] at H
 have c2005b0 : (af == 0) = false := beq_eq_false_iff_ne.mpr ah
 have c2005b1 : (af != 0) = true := bne_iff_ne.mpr ah
 (first | rw [c2005b0] | (simp only [i64_w, i32_w]; rw [c2005b0]) | skip)
 replace H := Option.bind_eq_some_iff.mp H
 obtain ⟨ad, A20060, H⟩ := H
 replace H : (if ad.length + l0.length < 140737488355328 then ((impl_Checksum.f ac (ad ++ l0)).bind fun ae => (impl_DecodeUdp.j1 ac l0 (ae != 0))) else (none)) = some (r1, r2, r3, r4) := H
 have A2006 := Aside0.mk A20060
 clear A20060
 by_cases aG : ad.length + l0.length < 140737488355328
 rw [if_pos aG] at H
 have LMc2007 := Aside0.mk aG
 clear aG
 obtain ⟨bh, aH⟩ : ∃ y_ : List Int, y_ = (ad ++ l0) := ⟨_, rfl⟩
 replace H : ((impl_Checksum.f ac bh).bind fun ae => (impl_DecodeUdp.j1 ac l0 (ae != 0))) = some (r1, r2, r3, r4) := by first | (rw [aH]; with_reducible exact H) | (have H2_ := (Option.bind_some _ _).symm.trans H; rw [aH]; with_reducible exact H2_) | (have H2_ := (Option.bind_some _ _).symm.trans H; with_reducible exact H2_) | with_reducible exact H | (rw [aH]; exact H) | exact H
 have Ny354 := Aside0.mk aH
 clear aH
 replace H := Option.bind_eq_some_iff.mp H
 obtain ⟨ae, A20080, H⟩ := H
 replace H : (impl_DecodeUdp.j1 ac l0 (ae != 0)) = some (r1, r2, r3, r4) := H
 have A2008 := Aside0.mk A20080
 clear A20080
 have H' := Aside0.mk H
 clear H
 rotate_left
 rw [if_neg aG] at H
 exact absurd H (by simp)
 rw [if_neg aD] at H
 exact absurd H (by simp)
 rw [if_neg aC] at H
 exact absurd H (by simp)
 all_goals (
 obtain ⟨i03001, hi03001, _, hsz3001, _⟩ := info_parts info5
 obtain ⟨A3001, hcut3001, hA3001, hC3001⟩ := print_mid_of (P := Try.prog) (Value.int .u8) 0 22 5 .i64 .i64 Try.underlying22 hi03001 hsz3001 A0 c0 l0 6 8 (by omega) (by first | omega | exact of_decide_eq_true (by first | (with_reducible assumption) | assumption)) (of_decide_eq_true (by first | (with_reducible assumption) | assumption)) aY.out
 have HR349 := Aside0.mk (Kd.C_of_reads (h1 := fun _ => rfl) (hA3001 _ (Kd.reads_of_C HR0.out)))
 have bk := Aside0.mk hC3001
 clear hA3001 hC3001 hi03001 hsz3001
 go_wp2_with (first | ((with_reducible refine gate_callee (f := 31) rfl ?_); refine goesL_ (some 33) rfl rfl Try.func31 (by kernel_rfl) rfl #[.slice A3001 ((l0.take 8).drop 6).length (c0 - 6)] rfl (by (try simp only [List.map_toArray, List.map_cons, List.map_nil]); first | done | (rw [show ((l0.take 8).drop 6).length = (8 - 6) from (by rw [List.length_drop, List.length_take]; have h_ : (8 : Int) ≤ (l0.length : Int) := of_decide_eq_true (by first | (with_reducible assumption) | assumption); omega)] <;> rfl) | rfl | (simp only [List.length_drop, List.length_take]; rfl)) ?_; (with_reducible refine (impl_get.calls ac _ _ ((l0.take 8).drop 6) af _ ?side1 ?side2 A2004.out).mono ?_); (case side1 => exact Kd.C_below HR349.out wB); (case side2 => exact bk.out); rintro e w' ⟨rfl, ⟨nd, rfl⟩⟩; refine ⟨_, rfl, ?_⟩) | (go_at_call 30; (with_reducible refine (impl_FalseHead.calls ac a1 a2 17 (l0.length : Int) ad _ A2006.out).mono ?_); rintro e aU ⟨bC, rfl, a7, hb⟩; have aV := Aside0.mk (Kd.R_lower a7 (below_size wB)); replace aa := Aside0.mk (blk_below (Bh aa) hb); replace HB := Aside0.mk (below_step wB hb); (try clear hb); (try clear hb2); (try clear hk); (try clear hi); (try clear a7)) | ((with_reducible refine gate_builtin (b := .append) (xs := #[.tmp 40, .tmp 41]) rfl ?_); (try (refine gate_guard (by rfl) ?_; dsimp only)); at_builtin; refine Kd.R_append_rows (Kd.int .u8) (w0 := w) w.heap.size rfl (.tmp 40) (.tmp 41) 22 5 (.int .u8 0) 1 rfl Try.underlying22 info5 rfl (by decide) (by omega) bC ad l0 _ _ _ (fun _ => True) (fun _ => False) rfl rfl ?aO ?aR (fun _ _ h => h) (fun _ h => h.elim) ?aF ?aB ?aS ?aL ?_; (case aR => exact Kd.C_below HR0.out wB); (case aB => exact wB); (case aF => exact (fun _ _ => trivial)); (case aO => exact (Rh aV)); (case aS => exact (below_size wB)); (case aL => have := LMc2007.out; omega); intro bK bI ho hb hg hat; rw [← Ny354.out] at ho; replace aa := Aside0.mk (blk_grown (Bh aa) hg (Kd.R_ne aV.out aa.out (by decide))); replace HB := Aside0.mk (hb); have aW := Aside0.mk (ho); clear aV; clear ho hb hg hat; obtain ⟨bE, bF, bi⟩ := Kd.R_slice aW.out; subst bi) | (go_at_call 29; (with_reducible refine (impl_Checksum.calls ac _ _ bh ae _ ?side1 ?side2 A2008.out).mono ?_); (case side1 => exact Ch aW); (case side2 => exact (Kd.R_reads' aW.out).2.1); rintro e w' ⟨rfl, ⟨nd, rfl⟩⟩))
 go_meet
 )
 {
 case rel => exact ⟨_, (false), (by first | rfl | (simp; done) | (simp [*]; done)), H', ⟨by have := HJ3.out; first | omega | exact Nat.le_refl _⟩, ⟨Bh aa⟩, ⟨wB⟩⟩
 }
 {
 case rel => exact ⟨_, ((ae != 0)), (by first | rfl | (simp; done) | (simp [*]; done)), H', ⟨by have := HJ3.out; first | omega | exact Nat.le_refl _⟩, ⟨Bh aa⟩, ⟨wB⟩⟩
 }
 )
 case rest => (
 clear aP
 try clear c0
 try clear ay
 try clear aE
 try clear an
 try clear c1006b0
 try clear c1006b1
 try clear az
 try clear c1007b0
 try clear c1007b1
 try clear aA
 try clear c1008b0
 try clear c1008b1
 try clear ag
 try clear c1010b0
 try clear c1010b1
 try clear aC
 try clear c2002b0
 try clear c2002b1
 try clear aD
 try clear c2003b0
 try clear c2003b1
 try clear ah
 try clear c2005b0
 try clear c2005b1
 try clear aG
 try clear aZ a0 a3 a4 a5 a6
 obtain ⟨kq, aw, rfl, HA, HJ1010, aa, HB⟩ := hcut
 cases kq with
 | zero => exact absurd HA.out (by simp [impl_DecodeUdp.j1])
 | succ ax => {
 have H := HA.out
 clear HA
 simp only [impl_DecodeUdp.j1] at H
 by_cases aN : aw = true
 {
 subst aN
 have H1 : (some (0, 0, ([] : List Int), 3)) = some (r1, r2, r3, r4) := by rw [if_pos rfl] at H; exact H
 clear H
 have H := H1
 clear H1
 simp only [Option.some.injEq, Prod.mk.injEq] at H
 obtain ⟨rfl, rfl, rfl, rfl⟩ := H
 obtain ⟨⟨bo, bp, bq⟩, br, bs, bu⟩ := cells3 aa.out
 go_wp2_with (first | ((with_reducible refine gate_store (t := 39) (p := 6) rfl ?_); (try (rw [drewN_self wc]; generalize hq_ : World.drewN wc _ = wc; replace aa := Aside0.mk (blk_at hq_ aa.out); replace HB := Aside0.mk (below_at hq_ HB.out); clear hq_; (try (obtain ⟨⟨ao, ap, aq⟩, ar, au, av⟩ := cells3 aa.out)))); refine store_event (t := 39) (p := 6) (v := ?_) (w1 := (((wc.setCell ⟨ab, 0, none⟩ (.int .i64 0)).setCell ⟨ab, 1, none⟩ (.int .i64 0)).setCell ⟨ab, 2, none⟩ (.slice none 0 0))) ?hg ?ho ?hn ?hr ?_; (case ho => rfl); (case hg => rfl); (case hn => rfl); (case hr => first | (go_simp; done) | (go_simp; rfl)); intro aU hw; have n0_ : Aside0 (aU.heap[ab]? = some (.cells #[.int .i64 0, .int .i64 0, .slice none 0 0] 39 (0, 0))) := ⟨(by rw [hw]; exact (by (with_reducible repeat (first | refine blk_drewN ?_ _ | refine blk_drew ?_ | refine blk_alloc ?_ _)); refine blk_put (cs := #[.int .i64 0, .int .i64 0, .slice none 0 0]) ?_ 2 _ rfl; (with_reducible repeat (first | refine blk_drewN ?_ _ | refine blk_drew ?_ | refine blk_alloc ?_ _)); refine blk_put (cs := #[.int .i64 0, .int .i64 0, .slice none 0 0]) ?_ 1 _ rfl; (with_reducible repeat (first | refine blk_drewN ?_ _ | refine blk_drew ?_ | refine blk_alloc ?_ _)); refine blk_put (cs := #[.int .i64 0, .int .i64 0, .slice none 0 0]) ?_ 0 _ rfl; (with_reducible repeat (first | refine blk_drewN ?_ _ | refine blk_drew ?_ | refine blk_alloc ?_ _)); exact aa.out))⟩; have n1_ : Aside0 (Below w.heap.size w aU) := ⟨(by rw [hw]; exact wB)⟩; clear hw; clear aa; clear HB; have aa := n0_; have HB := n1_; clear n0_ n1_))
 refine bodyPost_ret (results_ct rfl _ _ ab 39 #[.int .i64 0, .int .i64 0, .slice none 0 0] (0, 0) _ rfl (Bh aa) Try.underlying39 rfl (by kernel_rfl)) rfl ?_
 exact ⟨_, by first | rfl | (simp [errW_none, errW_some] <;> rfl) | (simp [*, errW_none, errW_some] <;> rfl), by first | exact Kd.R_nil _ _ _ _ _ | exact Kd.N_nil _ _ _ _ _ | exact Kd.V_nil _ _ _ _ _ | exact Kd.Q_nil _ _ _ _ _ | exact Kd.S_nil _ _ _ _ _, wB⟩
 }
 {
 replace aN := Bool.eq_false_iff.mpr aN
 subst aN
 have H1 : (if 2 ≤ (l0.length : Int) then ((impl_get.f ax (l0.take 2)).bind fun aj => (if 2 ≤ 4 then (if 4 ≤ (l0.length : Int) then ((impl_get.f ax ((l0.take 4).drop 2)).bind fun ak => (if 8 ≤ (l0.length : Int) then ((impl_dup.f (l0.drop 8)).bind fun al => (some (aj, ak, al, 0))) else (none))) else (none)) else (none))) else (none)) = some (r1, r2, r3, r4) := by rw [if_neg (show ¬ (false = true) by decide)] at H; exact H
 clear H
 have H := H1
 clear H1
 by_cases aI : 2 ≤ (l0.length : Int)
 {
 rw [if_pos aI] at H
 have c2010b0 := eq_true aI
 have c2010b1 : decide (2 ≤ (l0.length : Int)) = true := decide_eq_true aI
 clear aI
 replace H := Option.bind_eq_some_iff.mp H
 obtain ⟨aj, A20110, H⟩ := H
 replace H : (if 2 ≤ 4 then (if 4 ≤ (l0.length : Int) then ((impl_get.f ax ((l0.take 4).drop 2)).bind fun ak => (if 8 ≤ (l0.length : Int) then ((impl_dup.f (l0.drop 8)).bind fun al => (some (aj, ak, al, 0))) else (none))) else (none)) else (none)) = some (r1, r2, r3, r4) := H
 have A2011 := Aside0.mk A20110
 clear A20110
 by_cases aJ : 2 ≤ 4
 {
 rw [if_pos aJ] at H
 have c2012b0 := eq_true aJ
 have c2012b1 : decide (2 ≤ 4) = true := decide_eq_true aJ
 clear aJ
 by_cases aK : 4 ≤ (l0.length : Int)
 {
 rw [if_pos aK] at H
 have c2013b0 := eq_true aK
 have c2013b1 : decide (4 ≤ (l0.length : Int)) = true := decide_eq_true aK
 clear aK
 replace H := Option.bind_eq_some_iff.mp H
 obtain ⟨ak, A20140, H⟩ := H
 replace H : (if 8 ≤ (l0.length : Int) then ((impl_dup.f (l0.drop 8)).bind fun al => (some (aj, ak, al, 0))) else (none)) = some (r1, r2, r3, r4) := H
 have A2014 := Aside0.mk A20140
 clear A20140
 by_cases aM : 8 ≤ (l0.length : Int)
 {
 rw [if_pos aM] at H
 have c2015b0 := eq_true aM
 have c2015b1 : decide (8 ≤ (l0.length : Int)) = true := decide_eq_true aM
 clear aM
 replace H := Option.bind_eq_some_iff.mp H
 obtain ⟨al, A20160, H⟩ := H
 replace H : (some (aj, ak, al, 0)) = some (r1, r2, r3, r4) := H
 have A2016 := Aside0.mk A20160
 clear A20160
 simp only [Option.some.injEq, Prod.mk.injEq] at H
 obtain ⟨rfl, rfl, rfl, rfl⟩ := H
 try go_wp2
 have n0_ := Aside0.mk (blk_drew aa.out)
 have n1_ := Aside0.mk (below_drew1 HB.out)
 clear aa
 clear HB
 have aa := n0_
 have HB := n1_
 clear n0_ n1_
 obtain ⟨i03002, hi03002, _, hsz3002, _⟩ := info_parts info5
 obtain ⟨hcut3002, hA3002, hC3002⟩ := print_take_of (P := Try.prog) (Value.int .u8) 0 22 5 .i64 Try.underlying22 hi03002 hsz3002 A0 c0 l0 2 (by omega) (of_decide_eq_true (by first | (with_reducible assumption) | assumption)) aY.out
 have HR358 := Aside0.mk (Kd.C_of_reads (h1 := fun _ => rfl) (hA3002 _ (Kd.reads_of_C HR0.out)))
 have bl := Aside0.mk hC3002
 clear hA3002 hC3002 hi03002 hsz3002
 obtain ⟨i03003, hi03003, _, hsz3003, _⟩ := info_parts info5
 obtain ⟨A3003, hcut3003, hA3003, hC3003⟩ := print_mid_of (P := Try.prog) (Value.int .u8) 0 22 5 .i64 .i64 Try.underlying22 hi03003 hsz3003 A0 c0 l0 2 4 (by omega) (by first | omega | exact of_decide_eq_true (by first | (with_reducible assumption) | assumption)) (of_decide_eq_true (by first | (with_reducible assumption) | assumption)) aY.out
 have HR360 := Aside0.mk (Kd.C_of_reads (h1 := fun _ => rfl) (hA3003 _ (Kd.reads_of_C HR0.out)))
 have bm := Aside0.mk hC3003
 clear hA3003 hC3003 hi03003 hsz3003
 obtain ⟨i03004, hi03004, _, hsz3004, _⟩ := info_parts info5
 obtain ⟨A3004, hcut3004, hA3004, hC3004⟩ := print_drop_of (P := Try.prog) (Value.int .u8) 0 22 5 .i64 Try.underlying22 hi03004 hsz3004 A0 c0 l0 8 (by omega) (of_decide_eq_true (by first | (with_reducible assumption) | assumption)) aY.out
 have HR362 := Aside0.mk (Kd.C_of_reads (h1 := fun _ => rfl) (hA3004 _ (Kd.reads_of_C HR0.out)))
 have bn := Aside0.mk hC3004
 clear hA3004 hC3004 hi03004 hsz3004
 refine start_ (n := 12) (S := fun w' => True) (ds := []) #[false, false, false, false, false, false, false, false, false, false, false, false] (by kernel_rfl) rfl rfl trivial (fun hHeld => ?_); refine with_tabW impl_DecodeUdp.tab9 impl_DecodeUdp.bits9 (fun HT_ HW_ => ?_)
 generalize wc.drew = bJ at aa HB HR358 HR360 HR362 hHeld ⊢
 refine pure_ (i := 0) (N := some 47) (v := ?_) (a' := ?_) #[true, false, false, false, false, false, false, false, false, false, false, false] rfl rfl (any_of HT_.out (by kernel_rfl)) (fun _ _ _ h => h) (Or.inl ⟨by rfl, ?_⟩) ?_ ?_
 rotate_left
 {
 intro w'
 go_simp
 with_reducible rfl
 }
 rotate_left
 {
 simp only [Act.put, List.setIfInBounds_toArray, List.set_cons_zero, List.set_cons_succ, i64_w, i32_w]
 rfl
 }
 refine pure_ (i := 1) (N := some 48) (v := ?_) (a' := ?_) #[true, true, false, false, false, false, false, false, false, false, false, false] rfl rfl (any_of HT_.out (by kernel_rfl)) (fun _ _ _ h => h) (Or.inl ⟨by rfl, ?_⟩) ?_ ?_
 rotate_left
 {
 intro w'
 go_simp
 with_reducible rfl
 }
 rotate_left
 {
 simp only [Act.put, List.setIfInBounds_toArray, List.set_cons_zero, List.set_cons_succ, i64_w, i32_w]
 rfl
 }
 refine pure_ (i := 3) (N := some 50) (v := ?_) (a' := ?_) #[true, true, false, true, false, false, false, false, false, false, false, false] rfl rfl (any_of HT_.out (by kernel_rfl)) (fun _ _ _ h => h) (Or.inl ⟨by rfl, ?_⟩) ?_ ?_
 rotate_left
 {
 intro w'
 go_simp
 with_reducible rfl
 }
 rotate_left
 {
 simp only [Act.put, List.setIfInBounds_toArray, List.set_cons_zero, List.set_cons_succ, i64_w, i32_w]
 rfl
 }
 refine pure_ (i := 4) (N := some 51) (v := ?_) (a' := ?_) #[true, true, false, true, true, false, false, false, false, false, false, false] rfl rfl (any_of HT_.out (by kernel_rfl)) (fun _ _ _ h => h) (Or.inl ⟨by rfl, ?_⟩) ?_ ?_
 rotate_left
 {
 intro w'
 go_simp
 with_reducible rfl
 }
 rotate_left
 {
 simp only [Act.put, List.setIfInBounds_toArray, List.set_cons_zero, List.set_cons_succ, i64_w, i32_w]
 rfl
 }
 refine pure_ (i := 6) (N := some 53) (v := ?_) (a' := ?_) #[true, true, false, true, true, false, true, false, false, false, false, false] rfl rfl (any_of HT_.out (by kernel_rfl)) (fun _ _ _ h => h) (Or.inl ⟨by rfl, ?_⟩) ?_ ?_
 rotate_left
 {
 intro w'
 go_simp
 with_reducible rfl
 }
 rotate_left
 {
 simp only [Act.put, List.setIfInBounds_toArray, List.set_cons_zero, List.set_cons_succ, i64_w, i32_w]
 rfl
 }
 refine pure_ (i := 7) (N := some 54) (v := ?_) (a' := ?_) #[true, true, false, true, true, false, true, true, false, false, false, false] rfl rfl (any_of HT_.out (by kernel_rfl)) (fun _ _ _ h => h) (Or.inl ⟨by rfl, ?_⟩) ?_ ?_
 rotate_left
 {
 intro w'
 go_simp
 with_reducible rfl
 }
 rotate_left
 {
 simp only [Act.put, List.setIfInBounds_toArray, List.set_cons_zero, List.set_cons_succ, i64_w, i32_w]
 rfl
 }
 refine one_ (i := 2) (N := some 49) #[true, true, true, true, true, false, true, true, false, false, false, false] rfl rfl (one_of HT_.out (by kernel_rfl)) (by decide) (fun K hK => ?_)
 refine goes_ Try.func31 (by kernel_rfl) rfl #[.slice A0 (l0.take 2).length c0] (by rfl) rfl rfl (by (try simp only [List.map_toArray, List.map_cons, List.map_nil]); first | done | (rw [show (l0.take 2).length = 2 from (by rw [List.length_take]; have h_ : (2 : Int) ≤ (l0.length : Int) := of_decide_eq_true (by first | (with_reducible assumption) | assumption); omega)] <;> rfl) | rfl | (simp only [List.length_drop, List.length_take]; rfl)) ?_
 with_reducible refine (impl_get.calls ax _ _ (l0.take 2) aj _ ?side1 ?side2 A2011.out).mono ?_
 (case side1 => exact Kd.C_below HR358.out wB)
 (case side2 => exact bl.out)
 rintro e w' ⟨rfl, ⟨nd, rfl⟩⟩
 refine ⟨_, rfl, ?_⟩
 refine hK.out _ _ trivial (fun hHeld => ?_)
 clear hK K
 refine norm_ (a' := ?_) ?_ ?_
 rotate_left
 {
 show Act.put _ (some 49) _ = _
 simp only [Act.put, List.setIfInBounds_toArray, List.set_cons_zero, List.set_cons_succ, i64_w, i32_w]
 rfl
 }
 refine one_ (i := 5) (N := some 52) #[true, true, true, true, true, true, true, true, false, false, false, false] rfl rfl (one_of HT_.out (by kernel_rfl)) (by decide) (fun K hK => ?_)
 refine goes_ Try.func31 (by kernel_rfl) rfl #[.slice A3003 ((l0.take 4).drop 2).length (c0 - 2)] (by rfl) rfl rfl (by (try simp only [List.map_toArray, List.map_cons, List.map_nil]); first | done | (rw [show ((l0.take 4).drop 2).length = (4 - 2) from (by rw [List.length_drop, List.length_take]; have h_ : (4 : Int) ≤ (l0.length : Int) := of_decide_eq_true (by first | (with_reducible assumption) | assumption); omega)] <;> rfl) | rfl | (simp only [List.length_drop, List.length_take]; rfl)) ?_
 with_reducible refine (impl_get.calls ax _ _ ((l0.take 4).drop 2) ak _ ?side1 ?side2 A2014.out).mono ?_
 (case side1 => repeat (first | exact (Kd.C_below HR360.out wB) | (with_reducible refine Kd.C_alloc ?_ _) | (with_reducible refine Kd.C_drewN ?_ _) | (with_reducible refine Kd.C_drew ?_)))
 (case side2 => exact bm.out)
 rintro e w' ⟨rfl, ⟨nd, rfl⟩⟩
 refine ⟨_, rfl, ?_⟩
 refine hK.out _ _ trivial (fun hHeld => ?_)
 clear hK K
 refine norm_ (a' := ?_) ?_ ?_
 rotate_left
 {
 show Act.put _ (some 52) _ = _
 simp only [Act.put, List.setIfInBounds_toArray, List.set_cons_zero, List.set_cons_succ, i64_w, i32_w]
 rfl
 }
 refine one_ (i := 8) (N := some 55) #[true, true, true, true, true, true, true, true, true, false, false, false] rfl rfl (one_of HT_.out (by kernel_rfl)) (by decide) (fun K hK => ?_)
 refine goes_ Try.func32 (by kernel_rfl) rfl #[.slice A3004 (l0.drop 8).length (c0 - 8)] (by rfl) rfl rfl (by (try simp only [List.map_toArray, List.map_cons, List.map_nil]); first | done | (rw [show (l0.drop 8).length = (l0.length - 8) from List.length_drop] <;> rfl) | rfl | (simp only [List.length_drop, List.length_take]; rfl)) ?_
 with_reducible refine (impl_dup.calls _ _ (l0.drop 8) al _ ?side1 ?side2 A2016.out).mono ?_
 (case side1 => repeat (first | exact (Kd.C_below HR362.out wB) | (with_reducible refine Kd.C_alloc ?_ _) | (with_reducible refine Kd.C_drewN ?_ _) | (with_reducible refine Kd.C_drew ?_)))
 (case side2 => exact bn.out)
 rintro e aX ⟨bL, rfl, a7, hb⟩
 refine ⟨_, rfl, ?_⟩
 have n0_ := Aside0.mk (Kd.R_lower a7 (below_size wB))
 have n1_ := Aside0.mk (blk_below (Bh aa) hb)
 have n2_ := Aside0.mk (below_step wB hb)
 clear aa
 clear HB
 have bd := n0_
 have aa := n1_
 have HB := n2_
 clear n0_ n1_ n2_
 (try clear hb)
 (try clear hb2)
 (try clear hk)
 (try clear hi)
 (try clear a7)
 obtain ⟨a8, a9, ba⟩ := Kd.R_slice bd.out
 (first | subst ba | (injection ba with f1_ f2_ f3_; have f4_ := f1_.symm; have f5_ := f3_.symm; clear f1_ f2_ f3_; subst f4_; subst f5_))
 refine hK.out _ _ trivial (fun hHeld => ?_)
 clear hK K
 refine norm_ (a' := ?_) ?_ ?_
 rotate_left
 {
 show Act.put _ (some 55) _ = _
 simp only [Act.put, List.setIfInBounds_toArray, List.set_cons_zero, List.set_cons_succ, i64_w, i32_w]
 rfl
 }
 refine pure_ (i := 9) (N := some 56) (v := ?_) (a' := ?_) #[true, true, true, true, true, true, true, true, true, true, false, false] rfl rfl (any_of HT_.out (by kernel_rfl)) (fun _ _ _ h => h) (Or.inl ⟨by rfl, ?_⟩) ?_ ?_
 rotate_left
 {
 intro w'
 go_simp
 with_reducible rfl
 }
 rotate_left
 {
 simp only [Act.put, List.setIfInBounds_toArray, List.set_cons_zero, List.set_cons_succ, i64_w, i32_w]
 rfl
 }
 refine one_ (i := 10) (N := none) #[true, true, true, true, true, true, true, true, true, true, true, false] rfl rfl (one_of HT_.out (by kernel_rfl)) (by decide) (fun K hK => ?_)
 have hs3007 : aX.cell? ⟨ab, 0, none⟩ = some (.int .i64 0) := (blk_cell aa.out 0).trans rfl
 have hfs3007 := blk_frozen aa.out 0
 have hs3008 : aX.cell? ⟨ab, 1, none⟩ = some (.int .i64 0) := (blk_cell aa.out 1).trans rfl
 have hfs3008 := blk_frozen aa.out 1
 have hs3009 : aX.cell? ⟨ab, 2, none⟩ = some (.slice none 0 0) := (blk_cell aa.out 2).trans rfl
 have hfs3009 := blk_frozen aa.out 2
 refine skip_ (w1 := ?_) (by rfl) rfl ?_ ?_
 rotate_left
 {
 go_simp
 rfl
 }
 refine hK.out _ _ trivial (fun hHeld => ?_)
 clear hK K
 refine pure_ (i := 11) (N := some 7) (v := ?_) (a' := ?_) #[true, true, true, true, true, true, true, true, true, true, true, true] rfl rfl (any_of HT_.out (by kernel_rfl)) (fun _ _ _ h => h) (Or.inl ⟨by rfl, ?_⟩) ?_ ?_
 rotate_left
 {
 intro w'
 go_simp
 with_reducible rfl
 }
 rotate_left
 {
 simp only [Act.put, List.setIfInBounds_toArray, List.set_cons_zero, List.set_cons_succ, i64_w, i32_w]
 rfl
 }
 refine done_ (done_of HT_.out (by kernel_rfl)) ?_
 try go_wp2
 refine bodyPost_ret (results_ct rfl _ _ ab 39 #[.int .i64 aj, .int .i64 ak, .slice a8 al.length a9] (0, 0) _ rfl (by (with_reducible repeat (first | refine blk_drewN ?_ _ | refine blk_drew ?_ | refine blk_alloc ?_ _)); refine blk_put (cs := #[.int .i64 aj, .int .i64 ak, .slice none 0 0]) ?_ 2 _ rfl; (with_reducible repeat (first | refine blk_drewN ?_ _ | refine blk_drew ?_ | refine blk_alloc ?_ _)); refine blk_put (cs := #[.int .i64 aj, .int .i64 0, .slice none 0 0]) ?_ 1 _ rfl; (with_reducible repeat (first | refine blk_drewN ?_ _ | refine blk_drew ?_ | refine blk_alloc ?_ _)); refine blk_put (cs := #[.int .i64 0, .int .i64 0, .slice none 0 0]) ?_ 0 _ rfl; (with_reducible repeat (first | refine blk_drewN ?_ _ | refine blk_drew ?_ | refine blk_alloc ?_ _)); exact aa.out) Try.underlying39 rfl (by kernel_rfl)) rfl ?_
 exact ⟨_, by first | rfl | (simp [errW_none, errW_some] <;> rfl) | (simp [*, errW_none, errW_some] <;> rfl), by (with_reducible repeat (first | apply Kd.R_alloc | apply Kd.R_drewN | apply Kd.R_drew)); exact Kd.R_mono (Kd.R_far (p := ⟨ab, 2, none⟩) (Kd.R_far (p := ⟨ab, 1, none⟩) (Kd.R_far (p := ⟨ab, 0, none⟩) (Kd.R_types bd.out aa.out (by decide)) (fun _ hk => hk.2) (.int .i64 aj)) (fun _ hk => hk.2) (.int .i64 ak)) (fun _ hk => hk.2) (.slice a8 al.length a9)) (fun _ hk => trivial), wB⟩
 }
 {
 rw [if_neg aM] at H
 exact absurd H (by simp)
 }
 }
 {
 rw [if_neg aK] at H
 exact absurd H (by simp)
 }
 }
 {
 rw [if_neg aJ] at H
 exact absurd H (by simp)
 }
 }
 {
 rw [if_neg aI] at H
 exact absurd H (by simp)
 }
 }
 }
 )
 }
 {
 go_wp2_with (first | ((with_reducible refine gate_callee (f := 31) rfl ?_); refine goesL_ (some 26) rfl rfl Try.func31 (by kernel_rfl) rfl #[.slice A2001 ((l0.take 6).drop 4).length (c0 - 4)] rfl (by (try simp only [List.map_toArray, List.map_cons, List.map_nil]); first | done | (rw [show ((l0.take 6).drop 4).length = (6 - 4) from (by rw [List.length_drop, List.length_take]; have h_ : (6 : Int) ≤ (l0.length : Int) := of_decide_eq_true (by first | (with_reducible assumption) | assumption); omega)] <;> rfl) | rfl | (simp only [List.length_drop, List.length_take]; rfl)) ?_; (with_reducible refine (impl_get.calls ac _ _ ((l0.take 6).drop 4) ai _ ?side1 ?side2 A1009.out).mono ?_); (case side1 => exact Kd.C_below HR347.out wB); (case side2 => exact bc.out); rintro e w' ⟨rfl, ⟨nd, rfl⟩⟩; refine ⟨_, rfl, ?_⟩; (try (rw [drewN_self wc]; generalize hq_ : World.drewN wc _ = wc; replace aa := Aside0.mk (blk_at hq_ aa.out); replace HB := Aside0.mk (below_at hq_ HB.out); clear hq_; (try (obtain ⟨⟨ao, ap, aq⟩, ar, au, av⟩ := cells3 aa.out)))); obtain ⟨⟨bv, bw, bx⟩, bz, bA, bB⟩ := cells3 aa.out) | ((with_reducible refine gate_store (t := 39) (p := 6) rfl ?_); (try (rw [drewN_self wc]; generalize hq_ : World.drewN wc _ = wc; replace aa := Aside0.mk (blk_at hq_ aa.out); replace HB := Aside0.mk (below_at hq_ HB.out); clear hq_; (try (obtain ⟨⟨ao, ap, aq⟩, ar, au, av⟩ := cells3 aa.out)))); refine store_event (t := 39) (p := 6) (v := ?_) (w1 := (((wc.setCell ⟨ab, 0, none⟩ (.int .i64 0)).setCell ⟨ab, 1, none⟩ (.int .i64 0)).setCell ⟨ab, 2, none⟩ (.slice none 0 0))) ?hg ?ho ?hn ?hr ?_; (case ho => rfl); (case hg => rfl); (case hn => rfl); (case hr => first | (go_simp; done) | (go_simp; rfl)); intro bf hw; have n0_ : Aside0 (bf.heap[ab]? = some (.cells #[.int .i64 0, .int .i64 0, .slice none 0 0] 39 (0, 0))) := ⟨(by rw [hw]; exact (by (with_reducible repeat (first | refine blk_drewN ?_ _ | refine blk_drew ?_ | refine blk_alloc ?_ _)); refine blk_put (cs := #[.int .i64 0, .int .i64 0, .slice none 0 0]) ?_ 2 _ rfl; (with_reducible repeat (first | refine blk_drewN ?_ _ | refine blk_drew ?_ | refine blk_alloc ?_ _)); refine blk_put (cs := #[.int .i64 0, .int .i64 0, .slice none 0 0]) ?_ 1 _ rfl; (with_reducible repeat (first | refine blk_drewN ?_ _ | refine blk_drew ?_ | refine blk_alloc ?_ _)); refine blk_put (cs := #[.int .i64 0, .int .i64 0, .slice none 0 0]) ?_ 0 _ rfl; (with_reducible repeat (first | refine blk_drewN ?_ _ | refine blk_drew ?_ | refine blk_alloc ?_ _)); exact aa.out))⟩; have n1_ : Aside0 (Below w.heap.size w bf) := ⟨(by rw [hw]; exact wB)⟩; clear hw; clear aa; clear HB; have aa := n0_; have HB := n1_; clear n0_ n1_))
 refine bodyPost_ret (results_ct rfl _ _ ab 39 #[.int .i64 0, .int .i64 0, .slice none 0 0] (0, 0) _ rfl (Bh aa) Try.underlying39 rfl (by kernel_rfl)) rfl ?_
 exact ⟨_, by first | rfl | (simp [errW_none, errW_some] <;> rfl) | (simp [*, errW_none, errW_some] <;> rfl), by first | exact Kd.R_nil _ _ _ _ _ | exact Kd.N_nil _ _ _ _ _ | exact Kd.V_nil _ _ _ _ _ | exact Kd.Q_nil _ _ _ _ _ | exact Kd.S_nil _ _ _ _ _, wB⟩
 }
 }
 )

/-! ### laws_lwSame: function 20 -/
def laws_lwSame.f (l0 : List Int) (l1 : List Int) : Option (Bool) := some ((strOfNums l0).toList == (strOfNums l1).toList)
set_option maxHeartbeats 60000000 in
set_option maxRecDepth 100000 in
theorem laws_lwSame.calls (A0 : Option Addr) (c0 : Nat) (l0 : List Int) (A1 : Option Addr) (c1 : Nat) (l1 : List Int) (r : Bool) (w : World) (hr0 : Kd.C (Kd.int .u8) w A0 l0.length l0) (hc0 : l0.length ≤ c0) (hr1 : Kd.C (Kd.int .u8) w A1 l1.length l1) (hc1 : l1.length ≤ c1) (h : laws_lwSame.f l0 l1 = some r) :
 Calls Try.prog 20 #[.slice A0 l0.length c0, .slice A1 l1.length c1] w fun e w' => e = .returned (.bool r) ∧ Drawn0 w w' := by
 have HR0 := Aside0.mk hr0
 have aa := Aside0.mk hc0
 clear hr0 hc0
 have HR1 := Aside0.mk hr1
 have ab := Aside0.mk hc1
 clear hr1 hc1
 have H : (some ((strOfNums l0).toList == (strOfNums l1).toList)) = some r := h
 clear h
 obtain rfl := Option.some.inj H
 have hcv1001 := Kd.C_string (P := Try.prog) (A := A0) (c := c0) Try.underlying22 Try.underlying5 Try.underlying9 HR0.out
 have hcv1002 := Kd.C_string (P := Try.prog) (A := A1) (c := c1) Try.underlying22 Try.underlying5 Try.underlying9 HR1.out
 go_enter Try.func20, Try.ntmps20
 go_wp2
 go_ret
 exact ⟨by first | rfl | (simp; done) | (simp [*]; done), by repeat (first | exact Drawn0.refl _ | apply Drawn0.step)⟩

/-! ### spec_l01Seq: function 55 -/
def spec_l01Seq.f (ab : List Int) (ag : Int) (ah : Int) : Option (Int × Int × Int) := (spec_l01Next.f ab ag ah 4).bind fun aa => (if aa.1 = 0 then ((spec_l01Next.f ab aa.2.1 aa.2.2 3000).bind fun ac => (some (wrap64 (4294967295 - ac.1), ac.2.1, ac.2.2))) else (if aa.1 = 1 then ((spec_l01Next.f ab aa.2.1 aa.2.2 3000).bind fun ad => (some (ad.1, ad.2.1, ad.2.2))) else (if aa.1 = 2 then ((spec_l01Next.f ab aa.2.1 aa.2.2 4).bind fun ae => (some (wrap64 (2147483646 + ae.1), ae.2.1, ae.2.2))) else ((spec_l01Next.f ab aa.2.1 aa.2.2 2147483648).bind fun af => (some (wrap64 (af.1 * 2), af.2.1, af.2.2))))))
set_option maxHeartbeats 60000000 in
set_option maxRecDepth 100000 in
theorem spec_l01Seq.calls (g : Nat) (ac : List Int) (ak : Int) (al : Int) (r1 : Int) (r2 : Int) (r3 : Int) (w0 w : World) (hI : IsS64 w0 w g ac ak al) (hB : Below w0.heap.size w0 w) (h : spec_l01Seq.f ac ak al = some (r1, r2, r3)) :
 Calls Try.prog 55 #[.pointer (some ⟨g, 0, none⟩)] w fun e w' => e = .returned (.int .i64 r1) ∧ IsS64 w0 w' g ac r2 r3 ∧ Below w0.heap.size w0 w' ∧ KeepBut w w' g none := by
 have aa := Aside0.mk hI
 have HK := Aside0.mk (KeepBut.refl w g none)
 have HL := Aside0.mk hB.size
 clear hI
 have HW0 := Aside0.mk hB.size
 have HB := Aside0.mk hB
 clear hB
 have H : ((spec_l01Next.f ac ak al 4).bind fun ad => (if ad.1 = 0 then ((spec_l01Next.f ac ad.2.1 ad.2.2 3000).bind fun ag => (some (wrap64 (4294967295 - ag.1), ag.2.1, ag.2.2))) else (if ad.1 = 1 then ((spec_l01Next.f ac ad.2.1 ad.2.2 3000).bind fun ah => (some (ah.1, ah.2.1, ah.2.2))) else (if ad.1 = 2 then ((spec_l01Next.f ac ad.2.1 ad.2.2 4).bind fun ai => (some (wrap64 (2147483646 + ai.1), ai.2.1, ai.2.2))) else ((spec_l01Next.f ac ad.2.1 ad.2.2 2147483648).bind fun aj => (some (wrap64 (aj.1 * 2), aj.2.1, aj.2.2))))))) = some (r1, r2, r3) := h
 clear h
 replace H := Option.bind_eq_some_iff.mp H
 obtain ⟨⟨ab, ae, af⟩, A20, H⟩ := H
 replace H : (if ab = 0 then ((spec_l01Next.f ac ae af 3000).bind fun ag => (some (wrap64 (4294967295 - ag.1), ag.2.1, ag.2.2))) else (if ab = 1 then ((spec_l01Next.f ac ae af 3000).bind fun ah => (some (ah.1, ah.2.1, ah.2.2))) else (if ab = 2 then ((spec_l01Next.f ac ae af 4).bind fun ai => (some (wrap64 (2147483646 + ai.1), ai.2.1, ai.2.2))) else ((spec_l01Next.f ac ae af 2147483648).bind fun aj => (some (wrap64 (aj.1 * 2), aj.2.1, aj.2.2)))))) = some (r1, r2, r3) := H
 have A2 := Aside0.mk A20
 clear A20
 by_cases c3 : ab = 0
 {
 rw [if_pos c3] at H
 have c3b0 : (ab == 0) = true := beq_iff_eq.mpr c3
 have c3b1 : (ab != 0) = false := bne_eq_false_iff_eq.mpr c3
 clear c3
 replace H := Option.bind_eq_some_iff.mp H
 obtain ⟨⟨ao, ap, aq⟩, A40, H⟩ := H
 replace H : (some (wrap64 (4294967295 - ao), ap, aq)) = some (r1, r2, r3) := H
 have A4 := Aside0.mk A40
 clear A40
 simp only [Option.some.injEq, Prod.mk.injEq] at H
 obtain ⟨rfl, rfl, rfl⟩ := H
 go_enter Try.func55, Try.ntmps55
 go_wp2_with (first | ((with_reducible refine gate_callee (f := 40) rfl ?_); refine goesL_ (some 4) rfl rfl Try.func40 (by kernel_rfl) rfl #[.pointer (some ⟨g, 0, none⟩), .int .i64 4] rfl wT ?_; (with_reducible refine (spec_l01Next.calls g ac ak al 4 ab ae af w0 _ ?side1 ?side2 A2.out).mono ?_); (case side1 => repeat (first | (with_reducible first | exact aa.out | apply IsS64.alloc | apply IsS64.drewN | apply IsS64.drew | apply IsS64.set_1 | apply IsS64.set_2) | exact aa.out)); (case side2 => repeat (first | (with_reducible first | exact HB.out | apply below_alloc | apply pw_below_drewN | apply below_drew1 | refine below_set ?_ (IsS64.ge aa.out)) | exact HB.out)); rintro e am ⟨rfl, hi, hb, hk⟩; refine ⟨_, rfl, ?_⟩; replace HK := Aside0.mk (KeepBut.trans (by repeat (first | (with_reducible first | exact HK.out | apply KeepBut.set_ | apply keep_drewN | apply keep_drew | apply keep_alloc) | exact HK.out)) hk (.inl rfl)); replace HB := Aside0.mk (hb); replace aa := Aside0.mk (hi); (try clear hb); (try clear hb2); (try clear hk); (try clear hi)) | ((with_reducible refine gate_callee (f := 40) rfl ?_); refine goesL_ (some 8) rfl rfl Try.func40 (by kernel_rfl) rfl #[.pointer (some ⟨g, 0, none⟩), .int .i64 3000] rfl wT ?_; (with_reducible refine (spec_l01Next.calls g ac ae af 3000 ao ap aq w0 _ ?side1 ?side2 A4.out).mono ?_); (case side1 => repeat (first | (with_reducible first | exact aa.out | apply IsS64.alloc | apply IsS64.drewN | apply IsS64.drew | apply IsS64.set_1 | apply IsS64.set_2) | exact aa.out)); (case side2 => repeat (first | (with_reducible first | exact HB.out | apply below_alloc | apply pw_below_drewN | apply below_drew1 | refine below_set ?_ (IsS64.ge aa.out)) | exact HB.out)); rintro e an ⟨rfl, hi, hb, hk⟩; refine ⟨_, rfl, ?_⟩; replace HK := Aside0.mk (KeepBut.trans (by repeat (first | (with_reducible first | exact HK.out | apply KeepBut.set_ | apply keep_drewN | apply keep_drew | apply keep_alloc) | exact HK.out)) hk (.inl rfl)); replace HB := Aside0.mk (hb); replace aa := Aside0.mk (hi); (try clear hb); (try clear hb2); (try clear hk); (try clear hi)))
 go_ret
 exact ⟨by first | rfl | (simp [errW_none, errW_some] <;> rfl) | (simp [*, errW_none, errW_some] <;> rfl), by repeat (first | (with_reducible first | exact aa.out | apply IsS64.alloc | apply IsS64.drewN | apply IsS64.drew | apply IsS64.set_1 | apply IsS64.set_2) | exact aa.out), by repeat (first | (with_reducible first | exact HB.out | apply below_alloc | apply pw_below_drewN | apply below_drew1 | refine below_set ?_ (IsS64.ge aa.out)) | exact HB.out), by repeat (first | (with_reducible first | exact HK.out | apply KeepBut.set_ | apply keep_drewN | apply keep_drew | apply keep_alloc) | exact HK.out)⟩
 }
 {
 rw [if_neg c3] at H
 have c3b0 : (ab == 0) = false := beq_eq_false_iff_ne.mpr c3
 have c3b1 : (ab != 0) = true := bne_iff_ne.mpr c3
 by_cases c5 : ab = 1
 {
 rw [if_pos c5] at H
 have c5b0 : (ab == 1) = true := beq_iff_eq.mpr c5
 have c5b1 : (ab != 1) = false := bne_eq_false_iff_eq.mpr c5
 clear c5
 replace H := Option.bind_eq_some_iff.mp H
 obtain ⟨⟨ar, au, av⟩, A60, H⟩ := H
 replace H : (some (ar, au, av)) = some (r1, r2, r3) := H
 have A6 := Aside0.mk A60
 clear A60
 simp only [Option.some.injEq, Prod.mk.injEq] at H
 obtain ⟨rfl, rfl, rfl⟩ := H
 go_enter Try.func55, Try.ntmps55
 go_wp2_with (first | ((with_reducible refine gate_callee (f := 40) rfl ?_); refine goesL_ (some 4) rfl rfl Try.func40 (by kernel_rfl) rfl #[.pointer (some ⟨g, 0, none⟩), .int .i64 4] rfl wT ?_; (with_reducible refine (spec_l01Next.calls g ac ak al 4 ab ae af w0 _ ?side1 ?side2 A2.out).mono ?_); (case side1 => repeat (first | (with_reducible first | exact aa.out | apply IsS64.alloc | apply IsS64.drewN | apply IsS64.drew | apply IsS64.set_1 | apply IsS64.set_2) | exact aa.out)); (case side2 => repeat (first | (with_reducible first | exact HB.out | apply below_alloc | apply pw_below_drewN | apply below_drew1 | refine below_set ?_ (IsS64.ge aa.out)) | exact HB.out)); rintro e am ⟨rfl, hi, hb, hk⟩; refine ⟨_, rfl, ?_⟩; replace HK := Aside0.mk (KeepBut.trans (by repeat (first | (with_reducible first | exact HK.out | apply KeepBut.set_ | apply keep_drewN | apply keep_drew | apply keep_alloc) | exact HK.out)) hk (.inl rfl)); replace HB := Aside0.mk (hb); replace aa := Aside0.mk (hi); (try clear hb); (try clear hb2); (try clear hk); (try clear hi)) | ((with_reducible refine gate_callee (f := 40) rfl ?_); refine goesL_ (some 13) rfl rfl Try.func40 (by kernel_rfl) rfl #[.pointer (some ⟨g, 0, none⟩), .int .i64 3000] rfl wT ?_; (with_reducible refine (spec_l01Next.calls g ac ae af 3000 ar au av w0 _ ?side1 ?side2 A6.out).mono ?_); (case side1 => repeat (first | (with_reducible first | exact aa.out | apply IsS64.alloc | apply IsS64.drewN | apply IsS64.drew | apply IsS64.set_1 | apply IsS64.set_2) | exact aa.out)); (case side2 => repeat (first | (with_reducible first | exact HB.out | apply below_alloc | apply pw_below_drewN | apply below_drew1 | refine below_set ?_ (IsS64.ge aa.out)) | exact HB.out)); rintro e an ⟨rfl, hi, hb, hk⟩; refine ⟨_, rfl, ?_⟩; replace HK := Aside0.mk (KeepBut.trans (by repeat (first | (with_reducible first | exact HK.out | apply KeepBut.set_ | apply keep_drewN | apply keep_drew | apply keep_alloc) | exact HK.out)) hk (.inl rfl)); replace HB := Aside0.mk (hb); replace aa := Aside0.mk (hi); (try clear hb); (try clear hb2); (try clear hk); (try clear hi)))
 go_ret
 exact ⟨by first | rfl | (simp [errW_none, errW_some] <;> rfl) | (simp [*, errW_none, errW_some] <;> rfl), by repeat (first | (with_reducible first | exact aa.out | apply IsS64.alloc | apply IsS64.drewN | apply IsS64.drew | apply IsS64.set_1 | apply IsS64.set_2) | exact aa.out), by repeat (first | (with_reducible first | exact HB.out | apply below_alloc | apply pw_below_drewN | apply below_drew1 | refine below_set ?_ (IsS64.ge aa.out)) | exact HB.out), by repeat (first | (with_reducible first | exact HK.out | apply KeepBut.set_ | apply keep_drewN | apply keep_drew | apply keep_alloc) | exact HK.out)⟩
 }
 {
 rw [if_neg c5] at H
 have c5b0 : (ab == 1) = false := beq_eq_false_iff_ne.mpr c5
 have c5b1 : (ab != 1) = true := bne_iff_ne.mpr c5
 by_cases c7 : ab = 2
 {
 rw [if_pos c7] at H
 have c7b0 : (ab == 2) = true := beq_iff_eq.mpr c7
 have c7b1 : (ab != 2) = false := bne_eq_false_iff_eq.mpr c7
 clear c7
 replace H := Option.bind_eq_some_iff.mp H
 obtain ⟨⟨aw, ax, ay⟩, A80, H⟩ := H
 replace H : (some (wrap64 (2147483646 + aw), ax, ay)) = some (r1, r2, r3) := H
 have A8 := Aside0.mk A80
 clear A80
 simp only [Option.some.injEq, Prod.mk.injEq] at H
 obtain ⟨rfl, rfl, rfl⟩ := H
 go_enter Try.func55, Try.ntmps55
 go_wp2_with (first | ((with_reducible refine gate_callee (f := 40) rfl ?_); refine goesL_ (some 4) rfl rfl Try.func40 (by kernel_rfl) rfl #[.pointer (some ⟨g, 0, none⟩), .int .i64 4] rfl wT ?_; (with_reducible refine (spec_l01Next.calls g ac ak al 4 ab ae af w0 _ ?side1 ?side2 A2.out).mono ?_); (case side1 => repeat (first | (with_reducible first | exact aa.out | apply IsS64.alloc | apply IsS64.drewN | apply IsS64.drew | apply IsS64.set_1 | apply IsS64.set_2) | exact aa.out)); (case side2 => repeat (first | (with_reducible first | exact HB.out | apply below_alloc | apply pw_below_drewN | apply below_drew1 | refine below_set ?_ (IsS64.ge aa.out)) | exact HB.out)); rintro e am ⟨rfl, hi, hb, hk⟩; refine ⟨_, rfl, ?_⟩; replace HK := Aside0.mk (KeepBut.trans (by repeat (first | (with_reducible first | exact HK.out | apply KeepBut.set_ | apply keep_drewN | apply keep_drew | apply keep_alloc) | exact HK.out)) hk (.inl rfl)); replace HB := Aside0.mk (hb); replace aa := Aside0.mk (hi); (try clear hb); (try clear hb2); (try clear hk); (try clear hi)) | ((with_reducible refine gate_callee (f := 40) rfl ?_); refine goesL_ (some 17) rfl rfl Try.func40 (by kernel_rfl) rfl #[.pointer (some ⟨g, 0, none⟩), .int .i64 4] rfl wT ?_; (with_reducible refine (spec_l01Next.calls g ac ae af 4 aw ax ay w0 _ ?side1 ?side2 A8.out).mono ?_); (case side1 => repeat (first | (with_reducible first | exact aa.out | apply IsS64.alloc | apply IsS64.drewN | apply IsS64.drew | apply IsS64.set_1 | apply IsS64.set_2) | exact aa.out)); (case side2 => repeat (first | (with_reducible first | exact HB.out | apply below_alloc | apply pw_below_drewN | apply below_drew1 | refine below_set ?_ (IsS64.ge aa.out)) | exact HB.out)); rintro e an ⟨rfl, hi, hb, hk⟩; refine ⟨_, rfl, ?_⟩; replace HK := Aside0.mk (KeepBut.trans (by repeat (first | (with_reducible first | exact HK.out | apply KeepBut.set_ | apply keep_drewN | apply keep_drew | apply keep_alloc) | exact HK.out)) hk (.inl rfl)); replace HB := Aside0.mk (hb); replace aa := Aside0.mk (hi); (try clear hb); (try clear hb2); (try clear hk); (try clear hi)))
 go_ret
 exact ⟨by first | rfl | (simp [errW_none, errW_some] <;> rfl) | (simp [*, errW_none, errW_some] <;> rfl), by repeat (first | (with_reducible first | exact aa.out | apply IsS64.alloc | apply IsS64.drewN | apply IsS64.drew | apply IsS64.set_1 | apply IsS64.set_2) | exact aa.out), by repeat (first | (with_reducible first | exact HB.out | apply below_alloc | apply pw_below_drewN | apply below_drew1 | refine below_set ?_ (IsS64.ge aa.out)) | exact HB.out), by repeat (first | (with_reducible first | exact HK.out | apply KeepBut.set_ | apply keep_drewN | apply keep_drew | apply keep_alloc) | exact HK.out)⟩
 }
 {
 rw [if_neg c7] at H
 have c7b0 : (ab == 2) = false := beq_eq_false_iff_ne.mpr c7
 have c7b1 : (ab != 2) = true := bne_iff_ne.mpr c7
 replace H := Option.bind_eq_some_iff.mp H
 obtain ⟨⟨az, aA, aB⟩, A90, H⟩ := H
 replace H : (some (wrap64 (az * 2), aA, aB)) = some (r1, r2, r3) := H
 have A9 := Aside0.mk A90
 clear A90
 simp only [Option.some.injEq, Prod.mk.injEq] at H
 obtain ⟨rfl, rfl, rfl⟩ := H
 go_enter Try.func55, Try.ntmps55
 go_wp2_with (first | ((with_reducible refine gate_callee (f := 40) rfl ?_); refine goesL_ (some 4) rfl rfl Try.func40 (by kernel_rfl) rfl #[.pointer (some ⟨g, 0, none⟩), .int .i64 4] rfl wT ?_; (with_reducible refine (spec_l01Next.calls g ac ak al 4 ab ae af w0 _ ?side1 ?side2 A2.out).mono ?_); (case side1 => repeat (first | (with_reducible first | exact aa.out | apply IsS64.alloc | apply IsS64.drewN | apply IsS64.drew | apply IsS64.set_1 | apply IsS64.set_2) | exact aa.out)); (case side2 => repeat (first | (with_reducible first | exact HB.out | apply below_alloc | apply pw_below_drewN | apply below_drew1 | refine below_set ?_ (IsS64.ge aa.out)) | exact HB.out)); rintro e am ⟨rfl, hi, hb, hk⟩; refine ⟨_, rfl, ?_⟩; replace HK := Aside0.mk (KeepBut.trans (by repeat (first | (with_reducible first | exact HK.out | apply KeepBut.set_ | apply keep_drewN | apply keep_drew | apply keep_alloc) | exact HK.out)) hk (.inl rfl)); replace HB := Aside0.mk (hb); replace aa := Aside0.mk (hi); (try clear hb); (try clear hb2); (try clear hk); (try clear hi)) | ((with_reducible refine gate_callee (f := 40) rfl ?_); refine goesL_ (some 20) rfl rfl Try.func40 (by kernel_rfl) rfl #[.pointer (some ⟨g, 0, none⟩), .int .i64 2147483648] rfl wT ?_; (with_reducible refine (spec_l01Next.calls g ac ae af 2147483648 az aA aB w0 _ ?side1 ?side2 A9.out).mono ?_); (case side1 => repeat (first | (with_reducible first | exact aa.out | apply IsS64.alloc | apply IsS64.drewN | apply IsS64.drew | apply IsS64.set_1 | apply IsS64.set_2) | exact aa.out)); (case side2 => repeat (first | (with_reducible first | exact HB.out | apply below_alloc | apply pw_below_drewN | apply below_drew1 | refine below_set ?_ (IsS64.ge aa.out)) | exact HB.out)); rintro e an ⟨rfl, hi, hb, hk⟩; refine ⟨_, rfl, ?_⟩; replace HK := Aside0.mk (KeepBut.trans (by repeat (first | (with_reducible first | exact HK.out | apply KeepBut.set_ | apply keep_drewN | apply keep_drew | apply keep_alloc) | exact HK.out)) hk (.inl rfl)); replace HB := Aside0.mk (hb); replace aa := Aside0.mk (hi); (try clear hb); (try clear hb2); (try clear hk); (try clear hi)))
 go_ret
 exact ⟨by first | rfl | (simp [errW_none, errW_some] <;> rfl) | (simp [*, errW_none, errW_some] <;> rfl), by repeat (first | (with_reducible first | exact aa.out | apply IsS64.alloc | apply IsS64.drewN | apply IsS64.drew | apply IsS64.set_1 | apply IsS64.set_2) | exact aa.out), by repeat (first | (with_reducible first | exact HB.out | apply below_alloc | apply pw_below_drewN | apply below_drew1 | refine below_set ?_ (IsS64.ge aa.out)) | exact HB.out), by repeat (first | (with_reducible first | exact HK.out | apply KeepBut.set_ | apply keep_drewN | apply keep_drew | apply keep_alloc) | exact HK.out)⟩
 }
 }
 }

/-! ### spec_l01Bool: function 56 -/
def spec_l01Bool.f (s0_0 : List Int) (s0_1 : Int) (s0_2 : Int) : Option (Bool × Int × Int) := (spec_l01Next.f s0_0 s0_1 s0_2 2).bind fun bt381 => (some ((bt381.1 == 0), bt381.2.1, bt381.2.2))
set_option maxHeartbeats 60000000 in
set_option maxRecDepth 100000 in
theorem spec_l01Bool.calls (g : Nat) (aa : List Int) (ac : Int) (ad : Int) (r1 : Bool) (r2 : Int) (r3 : Int) (w0 w : World) (hI : IsS64 w0 w g aa ac ad) (hB : Below w0.heap.size w0 w) (h : spec_l01Bool.f aa ac ad = some (r1, r2, r3)) :
 Calls Try.prog 56 #[.pointer (some ⟨g, 0, none⟩)] w fun e w' => e = .returned (.bool r1) ∧ IsS64 w0 w' g aa r2 r3 ∧ Below w0.heap.size w0 w' ∧ KeepBut w w' g none := by
 have ab := Aside0.mk hI
 have HK := Aside0.mk (KeepBut.refl w g none)
 have HL := Aside0.mk hB.size
 clear hI
 have HW0 := Aside0.mk hB.size
 have HB := Aside0.mk hB
 clear hB
 have H : ((spec_l01Next.f aa ac ad 2).bind fun ae => (some ((ae.1 == 0), ae.2.1, ae.2.2))) = some (r1, r2, r3) := h
 clear h
 replace H := Option.bind_eq_some_iff.mp H
 obtain ⟨⟨af, ag, ah⟩, A20, H⟩ := H
 replace H : (some ((af == 0), ag, ah)) = some (r1, r2, r3) := H
 have A2 := Aside0.mk A20
 clear A20
 simp only [Option.some.injEq, Prod.mk.injEq] at H
 obtain ⟨rfl, rfl, rfl⟩ := H
 go_enter Try.func56, Try.ntmps56
 go_wp2_with (first | ((with_reducible refine gate_callee (f := 40) rfl ?_); refine goesL_ (some 4) rfl rfl Try.func40 (by kernel_rfl) rfl #[.pointer (some ⟨g, 0, none⟩), .int .i64 2] rfl wT ?_; (with_reducible refine (spec_l01Next.calls g aa ac ad 2 af ag ah w0 _ ?side1 ?side2 A2.out).mono ?_); (case side1 => repeat (first | (with_reducible first | exact ab.out | apply IsS64.alloc | apply IsS64.drewN | apply IsS64.drew | apply IsS64.set_1 | apply IsS64.set_2) | exact ab.out)); (case side2 => repeat (first | (with_reducible first | exact HB.out | apply below_alloc | apply pw_below_drewN | apply below_drew1 | refine below_set ?_ (IsS64.ge ab.out)) | exact HB.out)); rintro e ai ⟨rfl, hi, hb, hk⟩; refine ⟨_, rfl, ?_⟩; replace HK := Aside0.mk (KeepBut.trans (by repeat (first | (with_reducible first | exact HK.out | apply KeepBut.set_ | apply keep_drewN | apply keep_drew | apply keep_alloc) | exact HK.out)) hk (.inl rfl)); replace HB := Aside0.mk (hb); replace ab := Aside0.mk (hi); (try clear hb); (try clear hb2); (try clear hk); (try clear hi)))
 go_ret
 exact ⟨by first | rfl | (simp [errW_none, errW_some] <;> rfl) | (simp [*, errW_none, errW_some] <;> rfl), by repeat (first | (with_reducible first | exact ab.out | apply IsS64.alloc | apply IsS64.drewN | apply IsS64.drew | apply IsS64.set_1 | apply IsS64.set_2) | exact ab.out), by repeat (first | (with_reducible first | exact HB.out | apply below_alloc | apply pw_below_drewN | apply below_drew1 | refine below_set ?_ (IsS64.ge ab.out)) | exact HB.out), by repeat (first | (with_reducible first | exact HK.out | apply KeepBut.set_ | apply keep_drewN | apply keep_drew | apply keep_alloc) | exact HK.out)⟩

end Go.Proofs.Ytfllcmeakcbiaaa.PFnOneBit
