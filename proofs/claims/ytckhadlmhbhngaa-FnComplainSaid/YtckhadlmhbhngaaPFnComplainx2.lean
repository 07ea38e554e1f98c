-- Written for this claim by a program of this session (wip/mkprint.py: the print, turned at a few places). Not trusted: Lean checks it.
import Derived.Test.YtckhadlmhbhngaaPFnComplainx0
import Derived.Test.YtckhadlmhbhngaaPFnComplainx1
namespace Go.Proofs.Ytckhadlmhbhngaa.PFnComplain
open Go.RowKit Go.Proofs.YtckhadlmhbhngaaW.PrintWords Go.Proofs.YtckhadlmhbhngaaW.PrintLast Go.Proofs.YtckhadlmhbhngaaW.PrintMore
attribute [local go_sem] max2_int min2_int max_two min_two max_three min_three max_four min_four   -- for this text's walks alone
set_option linter.unusedVariables false
set_option linter.unusedSimpArgs false

/-! ### impl_DecodeIP: function 7 -/
mutual
def impl_DecodeIP.j0 : Nat → List Int → Int → Bool → Option (Int × Int × Bool × Bool × Int × Int × Int × Int × Int × List Int × List Int × Int)
  | 0, _, _, _ => none
  | k + 1, x0, x5, ac => if ac = true then (none) else (if 0 ≤ x5 then (if x5 ≤ (x0.length : Int) then ((impl_Checksum.f k (x0.take (x5 : Int).toNat)).bind fun ab => (if ab = 0 then (if 2 ≤ 4 then (if 4 ≤ (x0.length : Int) then ((impl_get.f k ((x0.take 4).drop 2)).bind fun aa => (if aa < x5 then (impl_DecodeIP.j1 k x0 x5 aa true) else (impl_DecodeIP.j1 k x0 x5 aa (decide (aa > (x0.length : Int)))))) else (none)) else (none)) else (none))) else (none)) else (none))
def impl_DecodeIP.j1 : Nat → List Int → Int → Int → Bool → Option (Int × Int × Bool × Bool × Int × Int × Int × Int × Int × List Int × List Int × Int)
  | 0, _, _, _, _ => none
  | k + 1, x0, x5, x6, ag => if ag = true then (none) else (if 6 ≤ 8 then (if 8 ≤ (x0.length : Int) then ((impl_get.f k ((x0.take 8).drop 6)).bind fun aa => (if 1 < (x0.length : Int) then (if 4 ≤ 6 then (if 6 ≤ (x0.length : Int) then ((impl_get.f k ((x0.take 6).drop 4)).bind fun ac => (if 8 < (x0.length : Int) then (if 9 < (x0.length : Int) then (if 12 ≤ 16 then (if 16 ≤ (x0.length : Int) then ((impl_get.f k ((x0.take 16).drop 12)).bind fun ad => (if 16 ≤ 20 then (if 20 ≤ (x0.length : Int) then ((impl_get.f k ((x0.take 20).drop 16)).bind fun ae => (if 20 ≤ x5 then (if x5 ≤ (x0.length : Int) then ((impl_dup.f ((x0.take (x5 : Int).toNat).drop 20)).bind fun af => (if 0 ≤ x5 then (if x5 ≤ x6 then (if x6 ≤ (x0.length : Int) then ((impl_dup.f ((x0.take (x6 : Int).toNat).drop (x5 : Int).toNat)).bind fun ab => (if (aa / 32768) = 1 then (none) else (if (wrap64 ((wrap64 ((Go.bits .and .i64 aa 8191) * 8)) + (ab.length : Int))) > 65535 then (none) else (some (wrap64 (rd x0 1), ac, ((Go.bits .and .i64 (aa / 16384) 1) == 1), ((Go.bits .and .i64 (aa / 8192) 1) == 1), wrap64 ((Go.bits .and .i64 aa 8191) * 8), wrap64 (rd x0 8), wrap64 (rd x0 9), ad, ae, af, ab, 0))))) else (none)) else (none)) else (none))) else (none)) else (none))) else (none)) else (none))) else (none)) else (none)) else (none)) else (none))) else (none)) else (none)) else (none))) else (none)) else (none))
end
def impl_DecodeIP.f (k : Nat) (l0 : List Int) : Option (Int × Int × Bool × Bool × Int × Int × Int × Int × Int × List Int × List Int × Int) := if (l0.length : Int) < 20 then (none) else (if 0 < (l0.length : Int) then (if ((rd l0 0) / 16) = 4 then (if (wrap64 ((wrap64 (Go.bits .and .u8 (rd l0 0) 15)) * 4)) < 20 then (impl_DecodeIP.j0 k l0 (wrap64 ((wrap64 (Go.bits .and .u8 (rd l0 0) 15)) * 4)) true) else (impl_DecodeIP.j0 k l0 (wrap64 ((wrap64 (Go.bits .and .u8 (rd l0 0) 15)) * 4)) (decide ((wrap64 ((wrap64 (Go.bits .and .u8 (rd l0 0) 15)) * 4)) > (l0.length : Int))))) else (none)) else (none))
theorem impl_DecodeIP.mono_l : ∀ k, (∀ y0 y1 y2, LeO (impl_DecodeIP.j0 k y0 y1 y2) (impl_DecodeIP.j0 (k + 1) y0 y1 y2)) ∧ (∀ y0 y1 y2 y3, LeO (impl_DecodeIP.j1 k y0 y1 y2 y3) (impl_DecodeIP.j1 (k + 1) y0 y1 y2 y3))
  | 0 => ⟨fun _ _ _ r h => by simp [impl_DecodeIP.j0] at h, fun _ _ _ _ r h => by simp [impl_DecodeIP.j1] at h⟩
  | k + 1 => by
    obtain ⟨ih0, ih1⟩ := impl_DecodeIP.mono_l k
    refine ⟨?_, ?_⟩
    · intro y0 y1 y2
      unfold impl_DecodeIP.j0
      repeat' first
      | (with_reducible exact ih0 _ _ _)
      | (with_reducible exact ih1 _ _ _ _)
      | (with_reducible exact impl_Checksum.mono _ _)
      | (with_reducible exact impl_get.mono _ _)
      | (with_reducible exact LeO.refl _)
      | (with_reducible exact LeO.none _)
      | (with_reducible refine LeO.ite ?_ ?_)
      | (with_reducible refine LeO.bind ?_ (fun _ => ?_))
      | exact ih0 _ _ _
      | exact ih1 _ _ _ _
      | exact impl_Checksum.mono _ _
      | exact impl_get.mono _ _
      | exact LeO.none _
      | refine LeO.ite ?_ ?_
      | refine LeO.bind ?_ (fun _ => ?_)
    · intro y0 y1 y2 y3
      unfold impl_DecodeIP.j1
      repeat' first
      | (with_reducible exact ih0 _ _ _)
      | (with_reducible exact ih1 _ _ _ _)
      | (with_reducible exact impl_Checksum.mono _ _)
      | (with_reducible exact impl_get.mono _ _)
      | (with_reducible exact LeO.refl _)
      | (with_reducible exact LeO.none _)
      | (with_reducible refine LeO.ite ?_ ?_)
      | (with_reducible refine LeO.bind ?_ (fun _ => ?_))
      | exact ih0 _ _ _
      | exact ih1 _ _ _ _
      | exact impl_Checksum.mono _ _
      | exact impl_get.mono _ _
      | exact LeO.none _
      | refine LeO.ite ?_ ?_
      | refine LeO.bind ?_ (fun _ => ?_)
theorem impl_DecodeIP.mono : ∀ a0 k, LeO (impl_DecodeIP.f k a0) (impl_DecodeIP.f (k + 1) a0) := by
 intro a0 k
 obtain ⟨ih0, ih1⟩ := impl_DecodeIP.mono_l k
 unfold impl_DecodeIP.f
 repeat' first
     | (with_reducible exact ih0 _ _ _)
     | (with_reducible exact ih1 _ _ _ _)
     | (with_reducible exact impl_Checksum.mono _ _)
     | (with_reducible exact impl_get.mono _ _)
     | (with_reducible exact LeO.refl _)
     | (with_reducible exact LeO.none _)
     | (with_reducible refine LeO.ite ?_ ?_)
     | (with_reducible refine LeO.bind ?_ (fun _ => ?_))
     | exact ih0 _ _ _
     | exact ih1 _ _ _ _
     | exact impl_Checksum.mono _ _
     | exact impl_get.mono _ _
     | exact LeO.none _
     | refine LeO.ite ?_ ?_
     | refine LeO.bind ?_ (fun _ => ?_)
def impl_DecodeIP.T15 : Bool × List (List Nat × List Nat) := (true, [([], []), ([0], [0]), ([1], [1]), ([2], [2]), ([], []), ([4], [4]), ([5], [5]), ([], []), ([7], [7]), ([8], [8]), ([9], [9]), ([], []), ([11], [11]), ([12], [12]), ([13], [13]), ([], []), ([15], [15]), ([16], [16]), ([], []), ([18], [18]), ([19], [19]), ([20], [20]), ([], []), ([22], [22]), ([23], [23]), ([24], [24]), ([], []), ([26], [26]), ([27, 6], [27]), ([], []), ([29], [29]), ([30, 28], [30]), ([3, 6, 10, 14, 17, 21, 25, 28, 31], [3, 6, 10, 14, 17, 21, 25, 28, 31]), ([], []), ([33, 32, 31, 0, 1, 2, 3, 4, 5, 6, 7, 8, 9, 10, 11, 12, 13, 14, 15, 16, 17, 18, 19, 20, 21, 22, 23, 24, 25, 26, 27, 28, 29, 30, 31, 32, 33], [32, 33])])
def impl_DecodeIP.B15 : List Nat := [0, 1, 3, 7, 0, 16, 48, 0, 128, 384, 896, 0, 2048, 6144, 14336, 0, 32768, 98304, 0, 262144, 786432, 1835008, 0, 4194304, 12582912, 29360128, 0, 67108864, 201326704, 0, 536870912, 2080374896, 4294967295, 0, 17179869183]
theorem impl_DecodeIP.tab15 : rtab .any (opsOf Try.f7 15) = impl_DecodeIP.T15 := by kernel_rfl
theorem impl_DecodeIP.bits15 : waitsOk impl_DecodeIP.T15.2 impl_DecodeIP.B15 = true := by kernel_rfl
set_option maxHeartbeats 60000000 in
set_option maxRecDepth 100000 in
theorem impl_DecodeIP.calls (k : Nat) (A0 : Option Addr) (c0 : Nat) (l0 : List Int) (r1 : Int) (r2 : Int) (r3 : Bool) (r4 : Bool) (r5 : Int) (r6 : Int) (r7 : Int) (r8 : Int) (r9 : Int) (aR : List Int) (aS : List Int) (aT : Int) (w : World) (hr0 : Kd.C (Kd.int .u8) w A0 l0.length l0) (hc0 : l0.length ≤ c0) (h : impl_DecodeIP.f k l0 = some (r1, r2, r3, r4, r5, r6, r7, r8, r9, aR, aS, aT)) :
 Calls Try.prog 7 #[.slice A0 l0.length c0] w fun e w' => ∃ v9_ v10_ : Value, e = .returned (.tuple #[.agg #[.int .i64 r1, .int .i64 r2, .bool r3, .bool r4, .int .i64 r5, .int .i64 r6, .int .i64 r7, .int .i64 r8, .int .i64 r9, v9_, v10_], .int .i64 aT]) ∧ Kd.R (Kd.int .u8) 5 w' w.heap.size (fun k_ => some k_ ≠ (v10_ : Value).ownBlock) v9_ aR ∧ Kd.R (Kd.int .u8) 5 w' w.heap.size (fun k_ => some k_ ≠ (v9_ : Value).ownBlock) v10_ aS ∧ Below w.heap.size w w' := by
 have hu25 := Try.underlying25
 have HR0 := Aside0.mk hr0
 have a8 := Aside0.mk hc0
 clear hr0 hc0
 have HB := Aside0.mk (Below.refl w.heap.size w)
 have H : (if (l0.length : Int) < 20 then (none) else (if 0 < (l0.length : Int) then (if ((rd l0 0) / 16) = 4 then (if (wrap64 ((wrap64 (Go.bits .and .u8 (rd l0 0) 15)) * 4)) < 20 then (impl_DecodeIP.j0 k l0 (wrap64 ((wrap64 (Go.bits .and .u8 (rd l0 0) 15)) * 4)) true) else (impl_DecodeIP.j0 k l0 (wrap64 ((wrap64 (Go.bits .and .u8 (rd l0 0) 15)) * 4)) (decide ((wrap64 ((wrap64 (Go.bits .and .u8 (rd l0 0) 15)) * 4)) > (l0.length : Int))))) else (none)) else (none))) = some (r1, r2, r3, r4, r5, r6, r7, r8, r9, aR, aS, aT) := h
 clear h
 by_cases c2 : (l0.length : Int) < 20
 {
 rw [if_pos c2] at H
 have c2b0 : decide ((l0.length : Int) < 20) = true := decide_eq_true c2
 have c2b1 : decide (l0.length < 20) = true := decide_eq_true (by omega)
 clear c2
 exact absurd H (by simp)
 }
 {
 rw [if_neg c2] at H
 have c2b0 : decide ((l0.length : Int) < 20) = false := decide_eq_false c2
 have c2b1 : decide (l0.length < 20) = false := decide_eq_false (by omega)
 clear c2
 by_cases c3 : 0 < (l0.length : Int)
 {
 rw [if_pos c3] at H
 have c3b0 : decide (0 < (l0.length : Int)) = true := decide_eq_true c3
 have c3b1 : decide (0 < l0.length) = true := decide_eq_true (by omega)
 clear c3
 by_cases c4 : ((rd l0 0) / 16) = 4
 {
 rw [if_pos c4] at H
 have c4b0 : (((rd l0 0) / 16) == 4) = true := beq_iff_eq.mpr c4
 have c4b1 : (((rd l0 0) / 16) != 4) = false := bne_eq_false_iff_eq.mpr c4
 clear c4
 have b8 := Aside0.mk H
 clear H
 go_enter Try.func7, Try.ntmps7
 go_upto_region 7 with (first | ((with_reducible refine gate_dst (N := 2) rfl ?_); (try (refine gate_guard (by rfl) ?_; dsimp only)); refine boxE 2 #[.int .i64 0, .int .i64 0, .bool false, .bool false, .int .i64 0, .int .i64 0, .int .i64 0, .int .i64 0, .int .i64 0, .slice none 0 0, .slice none 0 0] 25 ?_; intro ak hg d3 hbox hb; have ac := Aside0.mk (hbox); have cd := Aside0.mk ((by rw [hg]; exact (below_size wB) : w.heap.size ≤ ak)); replace HB := Aside0.mk (below_step wB hb); have d4 := cd; clear hb hbox hg) | ((with_reducible refine gate_dst (N := 4) rfl ?_); (try (refine gate_guard (by rfl) ?_; dsimp only)); refine boxE 4 #[.int .i64 0, .int .i64 0, .bool false, .bool false, .int .i64 0, .int .i64 0, .int .i64 0, .int .i64 0, .int .i64 0, .slice none 0 0, .slice none 0 0] 25 ?_; intro am hg d5 hbox hb; have ad := Aside0.mk (hbox); have ce := Aside0.mk ((by rw [hg]; exact (below_size wB) : w.heap.size ≤ am)); replace HB := Aside0.mk (below_step wB hb); have d6 := ce; have a9 := Aside0.mk ((by rw [hg]; exact Nat.ne_of_lt (blk_lt (Bh ac)) : ak ≠ am)); replace ac := Aside0.mk (blk_below (Bh ac) hb); have ba := Aside0.mk a9.out.symm; clear hb hbox hg; have p109 : 0 ≤ (0 : Int) := (by omega); have q109 : 0 < (l0.length : Int) := dT; obtain ⟨ad109, e109, hx109_0⟩ := Kd.at_int HR0.out 0 p109 q109; cases e109; have qi109 : (0 < l0.length) = True := eq_true (by omega); (try rw [show ((0 : Int)).toNat = 0 from rfl] at hx109_0); (try rw [Addr.add_zero'] at hx109_0); replace hx109_0 := (HB.out.cell (World.block_lt_of_cell? w _ hx109_0)).trans hx109_0; replace p109 := eq_true p109; replace q109 := eq_true q109; have p110 : 0 ≤ (0 : Int) := (by omega); have q110 : 0 < (l0.length : Int) := dT; obtain ⟨ad110, e110, hx110_0⟩ := Kd.at_int HR0.out 0 p110 q110; obtain rfl : ad109 = ad110 := (by injection e110); have qi110 : (0 < l0.length) = True := eq_true (by omega); (try rw [show ((0 : Int)).toNat = 0 from rfl] at hx110_0); (try rw [Addr.add_zero'] at hx110_0); replace hx110_0 := (HB.out.cell (World.block_lt_of_cell? w _ hx110_0)).trans hx110_0; replace p110 := eq_true p110; replace q110 := eq_true q110))
 (try simp only [Act.put, List.setIfInBounds_toArray, List.set_cons_zero, List.set_cons_succ])
 go_cut [32] (fun d1 wc => ∃ (kq : Nat) (bb : Bool), d1 = .bool bb ∧ Aside0 (impl_DecodeIP.j0 kq l0 (wrap64 ((wrap64 (Go.bits .and .u8 (rd l0 0) 15)) * 4)) bb = some (r1, r2, r3, r4, r5, r6, r7, r8, r9, aR, aS, aT)) ∧ Aside0 (kq ≤ k) ∧ Aside0 (wc.heap[ak]? = some (.cells #[.int .i64 0, .int .i64 0, .bool false, .bool false, .int .i64 0, .int .i64 0, .int .i64 0, .int .i64 0, .int .i64 0, (.slice none 0 0), (.slice none 0 0)] 25 (0, 0))) ∧ Aside0 (wc.heap[am]? = some (.cells #[.int .i64 0, .int .i64 0, .bool false, .bool false, .int .i64 0, .int .i64 0, .int .i64 0, .int .i64 0, .int .i64 0, (.slice none 0 0), (.slice none 0 0)] 25 (0, 0))) ∧ Aside0 (Below w.heap.size w wc))
 case first => (
 have H := b8.out
 clear b8
 by_cases aC : (wrap64 ((wrap64 (Go.bits .and .u8 (rd l0 0) 15)) * 4)) < 20
 {
 rw [if_pos aC] at H
 have c1003b0 : decide ((wrap64 ((wrap64 (Go.bits .and .u8 (rd l0 0) 15)) * 4)) < 20) = true := decide_eq_true aC
 clear aC
 (first | rw [c1003b0] | (simp only [i64_w, i32_w]; rw [c1003b0]) | skip)
 have H' := Aside0.mk H
 clear H
 go_wp2
 go_meet
 case rel => exact ⟨_, (true), eS, H', ⟨by first | omega | exact Nat.le_refl _⟩, ⟨Bh ac⟩, ⟨Bh ad⟩, ⟨wB⟩⟩
 }
 {
 rw [if_neg aC] at H
 have c1003b0 : decide ((wrap64 ((wrap64 (Go.bits .and .u8 (rd l0 0) 15)) * 4)) < 20) = false := decide_eq_false aC
 clear aC
 (first | rw [c1003b0] | (simp only [i64_w, i32_w]; rw [c1003b0]) | skip)
 have H' := Aside0.mk H
 clear H
 go_wp2
 go_meet
 case rel => exact ⟨_, (decide ((wrap64 ((wrap64 (Go.bits .and .u8 (rd l0 0) 15)) * 4)) > (l0.length : Int))), eS, H', ⟨by first | omega | exact Nat.le_refl _⟩, ⟨Bh ac⟩, ⟨Bh ad⟩, ⟨wB⟩⟩
 }
 )
 case rest => (
 clear b8
 try clear c2
 try clear c2b0
 try clear c2b1
 try clear p2
 try clear c3
 try clear c3b0
 try clear c3b1
 try clear c4
 try clear c4b0
 try clear c4b1
 try clear p109
 try clear q109
 try clear hx109
 try clear qi109
 try clear p110
 try clear q110
 try clear hx110
 try clear qi110
 try clear aC
 try clear c1003b0
 try clear hx109_0
 try clear hx110_0
 try clear p109
 try clear p110
 try clear q109
 try clear q110
 obtain ⟨kq, bb, rfl, HA, HJ4, ac, ad, HB⟩ := hcut
 cases kq with
 | zero => exact absurd HA.out (by simp [impl_DecodeIP.j0])
 | succ aK => {
 have H := HA.out
 clear HA
 simp only [impl_DecodeIP.j0] at H
 by_cases aU : bb = true
 {
 subst aU
 have H1 : (none) = some (r1, r2, r3, r4, r5, r6, r7, r8, r9, aR, aS, aT) := by rw [if_pos rfl] at H; exact H
 clear H
 have H := H1
 clear H1
 exact absurd H (by simp)
 }
 {
 replace aU := Bool.eq_false_iff.mpr aU
 subst aU
 have H1 : (if 0 ≤ (wrap64 ((wrap64 (Go.bits .and .u8 (rd l0 0) 15)) * 4)) then (if (wrap64 ((wrap64 (Go.bits .and .u8 (rd l0 0) 15)) * 4)) ≤ (l0.length : Int) then ((impl_Checksum.f aK (l0.take ((wrap64 ((wrap64 (Go.bits .and .u8 (rd l0 0) 15)) * 4)) : Int).toNat)).bind fun aF => (if aF = 0 then (if 2 ≤ 4 then (if 4 ≤ (l0.length : Int) then ((impl_get.f aK ((l0.take 4).drop 2)).bind fun al => (if al < (wrap64 ((wrap64 (Go.bits .and .u8 (rd l0 0) 15)) * 4)) then (impl_DecodeIP.j1 aK l0 (wrap64 ((wrap64 (Go.bits .and .u8 (rd l0 0) 15)) * 4)) al true) else (impl_DecodeIP.j1 aK l0 (wrap64 ((wrap64 (Go.bits .and .u8 (rd l0 0) 15)) * 4)) al (decide (al > (l0.length : Int)))))) else (none)) else (none)) else (none))) else (none)) else (none)) = some (r1, r2, r3, r4, r5, r6, r7, r8, r9, aR, aS, aT) := by rw [if_neg (show ¬ (false = true) by decide)] at H; exact H
 clear H
 have H := H1
 clear H1
 obtain ⟨ab, hji1005⟩ : ∃ j_ : Int, (wrap64 ((wrap64 (Go.bits .and .u8 (rd l0 0) 15)) * 4)) = j_ := ⟨_, rfl⟩
 replace H : (if 0 ≤ (ab) then (if (ab) ≤ (l0.length : Int) then ((impl_Checksum.f aK (l0.take ((ab) : Int).toNat)).bind fun aF => (if aF = 0 then (if 2 ≤ 4 then (if 4 ≤ (l0.length : Int) then ((impl_get.f aK ((l0.take 4).drop 2)).bind fun al => (if al < (ab) then (impl_DecodeIP.j1 aK l0 (ab) al true) else (impl_DecodeIP.j1 aK l0 (ab) al (decide (al > (l0.length : Int)))))) else (none)) else (none)) else (none))) else (none)) else (none)) = some (r1, r2, r3, r4, r5, r6, r7, r8, r9, aR, aS, aT) := by first | (rw [hji1005] at H; exact H) | (simp only [hji1005] at H ⊢; exact H)
 have hji1005w : (IntKind.i64.wrap ((wrap64 (Go.bits .and .u8 (rd l0 0) 15)) * 4)) = ab := (i64_w _).trans hji1005
 by_cases aL : 0 ≤ (ab)
 {
 rw [if_pos aL] at H
 have c1006b0 := eq_true aL
 have c1006b1 : decide (0 ≤ (ab)) = true := decide_eq_true aL
 clear aL
 by_cases aM : (ab) ≤ (l0.length : Int)
 {
 rw [if_pos aM] at H
 have c1007b0 := eq_true aM
 have c1007b1 : decide ((ab) ≤ (l0.length : Int)) = true := decide_eq_true aM
 clear aM
 replace H := Option.bind_eq_some_iff.mp H
 obtain ⟨aF, A10080, H⟩ := H
 have A1008 := Aside0.mk A10080
 clear A10080
 by_cases aD : aF = 0
 {
 rw [if_pos aD] at H
 have c1009b0 : (aF == 0) = true := beq_iff_eq.mpr aD
 have c1009b1 : (aF != 0) = false := bne_eq_false_iff_eq.mpr aD
 clear aD
 by_cases aN : 2 ≤ 4
 {
 rw [if_pos aN] at H
 have c1010b0 := eq_true aN
 have c1010b1 : decide (2 ≤ 4) = true := decide_eq_true aN
 clear aN
 by_cases aO : 4 ≤ (l0.length : Int)
 {
 rw [if_pos aO] at H
 have c1011b0 := eq_true aO
 have c1011b1 : decide (4 ≤ (l0.length : Int)) = true := decide_eq_true aO
 clear aO
 replace H := Option.bind_eq_some_iff.mp H
 obtain ⟨al, A10120, H⟩ := H
 have A1012 := Aside0.mk A10120
 clear A10120
 have bi := Aside0.mk H
 clear H
 obtain ⟨i02001, hi02001, _, hsz2001, _⟩ := info_parts info5
 obtain ⟨hcut2001, hA2001, hC2001⟩ := print_take_of (P := Try.prog) (Value.int .u8) 0 22 5 .i64 Try.underlying22 hi02001 hsz2001 (some ad109) c0 l0 (ab) dT dT a8.out
 have HR111 := Aside0.mk (Kd.C_of_reads (h1 := fun _ => rfl) (hA2001 _ (Kd.reads_of_C HR0.out)))
 have cf := Aside0.mk hC2001
 clear hA2001 hC2001 hi02001 hsz2001
 go_upto_region 12 with (first | ((with_reducible refine gate_callee (f := 38) rfl ?_); refine gL (hargs := (by (try simp only [List.map_toArray, List.map_cons, List.map_nil]); first | done | (rw [show (l0.take ((ab) : Int).toNat).length = (ab).toNat from (by rw [List.length_take]; have h_ : ((ab) : Int) ≤ (l0.length : Int) := dT; omega)] <;> rfl) | (simp only [hji1005]; rfl) | rfl | (simp only [List.length_drop, List.length_take]; rfl))) (some 37) Try.func38 #[.slice (some ad109) (l0.take ((ab) : Int).toNat).length c0] ?_; (with_reducible refine (impl_Checksum.calls aK _ _ (l0.take ((ab) : Int).toNat) aF _ ?side1 ?side2 A1008.out).mono ?_); (case side1 => exact Kd.C_below HR111.out wB); (case side2 => exact cf.out); rintro e w' ⟨rfl, ⟨nd, rfl⟩⟩; refine ⟨_, rfl, ?_⟩; obtain ⟨i02002, hi02002, _, hsz2002, _⟩ := info_parts info5; obtain ⟨A2002, hcut2002, hA2002, hC2002⟩ := print_mid_of (P := Try.prog) (Value.int .u8) 0 22 5 .i64 .i64 Try.underlying22 hi02002 hsz2002 (some ad109) c0 l0 2 4 (by omega) (by first | omega | exact dT) dT a8.out; have HR113 := Aside0.mk (Kd.C_of_reads (h1 := fun _ => rfl) (hA2002 _ (Kd.reads_of_C HR0.out))); have cg := Aside0.mk hC2002; clear hA2002 hC2002 hi02002 hsz2002) | ((with_reducible refine gate_callee (f := 39) rfl ?_); refine gL (hargs := (by (try simp only [List.map_toArray, List.map_cons, List.map_nil]); first | done | (rw [show ((l0.take 4).drop 2).length = (4 - 2) from (by rw [List.length_drop, List.length_take]; have h_ : (4 : Int) ≤ (l0.length : Int) := dT; omega)] <;> rfl) | rfl | (simp only [List.length_drop, List.length_take]; rfl))) (some 42) Try.func39 #[.slice A2002 ((l0.take 4).drop 2).length (c0 - 2)] ?_; (with_reducible refine (impl_get.calls aK _ _ ((l0.take 4).drop 2) al _ ?side1 ?side2 A1012.out).mono ?_); (case side1 => repeat (first | exact (Kd.C_below HR113.out wB) | (with_reducible refine Kd.C_alloc ?_ _) | (with_reducible refine Kd.C_drewN ?_ _) | (with_reducible refine Kd.C_drew ?_))); (case side2 => exact cg.out); rintro e w' ⟨rfl, ⟨nd, rfl⟩⟩; refine ⟨_, rfl, ?_⟩))
 (try simp only [Act.put, List.setIfInBounds_toArray, List.set_cons_zero, List.set_cons_succ])
 go_cut [51] (fun d2 wc => ∃ (kq : Nat) (aG : Bool), d2 = .bool aG ∧ Aside0 (impl_DecodeIP.j1 kq l0 (ab) al aG = some (r1, r2, r3, r4, r5, r6, r7, r8, r9, aR, aS, aT)) ∧ Aside0 (kq ≤ aK) ∧ Aside0 (wc.heap[ak]? = some (.cells #[.int .i64 0, .int .i64 0, .bool false, .bool false, .int .i64 0, .int .i64 0, .int .i64 0, .int .i64 0, .int .i64 0, (.slice none 0 0), (.slice none 0 0)] 25 (0, 0))) ∧ Aside0 (wc.heap[am]? = some (.cells #[.int .i64 0, .int .i64 0, .bool false, .bool false, .int .i64 0, .int .i64 0, .int .i64 0, .int .i64 0, .int .i64 0, (.slice none 0 0), (.slice none 0 0)] 25 (0, 0))) ∧ Aside0 (Below w.heap.size w wc))
 case first => (
 have H := bi.out
 clear bi
 by_cases aH : al < (ab)
 {
 rw [if_pos aH] at H
 have c2003b0 : decide (al < (ab)) = true := decide_eq_true aH
 clear aH
 (first | rw [c2003b0] | (simp only [i64_w, i32_w]; rw [c2003b0]) | skip)
 have H' := Aside0.mk H
 clear H
 go_wp2
 go_meet
 case rel => exact ⟨_, (true), eS, H', ⟨by have := HJ4.out; first | omega | exact Nat.le_refl _⟩, ⟨Bh ac⟩, ⟨Bh ad⟩, ⟨wB⟩⟩
 }
 {
 rw [if_neg aH] at H
 have c2003b0 : decide (al < (ab)) = false := decide_eq_false aH
 clear aH
 (first | rw [c2003b0] | (simp only [i64_w, i32_w]; rw [c2003b0]) | skip)
 have H' := Aside0.mk H
 clear H
 go_wp2
 go_meet
 case rel => exact ⟨_, (decide (al > (l0.length : Int))), eS, H', ⟨by have := HJ4.out; first | omega | exact Nat.le_refl _⟩, ⟨Bh ac⟩, ⟨Bh ad⟩, ⟨wB⟩⟩
 }
 )
 case rest => (
 clear bi
 try clear c0
 try clear c2
 try clear c2b0
 try clear c2b1
 try clear p2
 try clear c3
 try clear c3b0
 try clear c3b1
 try clear c4
 try clear c4b0
 try clear c4b1
 try clear p109
 try clear q109
 try clear hx109
 try clear qi109
 try clear p110
 try clear q110
 try clear hx110
 try clear qi110
 try clear aC
 try clear c1003b0
 try clear aU
 try clear aL
 try clear c1006b0
 try clear c1006b1
 try clear aM
 try clear c1007b0
 try clear c1007b1
 try clear aD
 try clear c1009b0
 try clear c1009b1
 try clear aN
 try clear c1010b0
 try clear c1010b1
 try clear aO
 try clear c1011b0
 try clear c1011b1
 try clear aH
 try clear c2003b0
 try clear hx109_0
 try clear hx110_0
 try clear p109
 try clear p110
 try clear p2
 try clear q109
 try clear q110
 obtain ⟨kq, aG, rfl, HA, HJ1012, ac, ad, HB⟩ := hcut
 cases kq with
 | zero => exact absurd HA.out (by simp [impl_DecodeIP.j1])
 | succ ao => {
 have H := HA.out
 clear HA
 simp only [impl_DecodeIP.j1] at H
 by_cases bc : aG = true
 {
 subst bc
 have H1 : (none) = some (r1, r2, r3, r4, r5, r6, r7, r8, r9, aR, aS, aT) := by rw [if_pos rfl] at H; exact H
 clear H
 have H := H1
 clear H1
 exact absurd H (by simp)
 }
 {
 replace bc := Bool.eq_false_iff.mpr bc
 subst bc
 have H1 : (if 6 ≤ 8 then (if 8 ≤ (l0.length : Int) then ((impl_get.f ao ((l0.take 8).drop 6)).bind fun aj => (if 1 < (l0.length : Int) then (if 4 ≤ 6 then (if 6 ≤ (l0.length : Int) then ((impl_get.f ao ((l0.take 6).drop 4)).bind fun aw => (if 8 < (l0.length : Int) then (if 9 < (l0.length : Int) then (if 12 ≤ 16 then (if 16 ≤ (l0.length : Int) then ((impl_get.f ao ((l0.take 16).drop 12)).bind fun av => (if 16 ≤ 20 then (if 20 ≤ (l0.length : Int) then ((impl_get.f ao ((l0.take 20).drop 16)).bind fun aq => (if 20 ≤ (ab) then (if (ab) ≤ (l0.length : Int) then ((impl_dup.f ((l0.take ((ab) : Int).toNat).drop 20)).bind fun ax => (if 0 ≤ (ab) then (if (ab) ≤ al then (if al ≤ (l0.length : Int) then ((impl_dup.f ((l0.take (al : Int).toNat).drop ((ab) : Int).toNat)).bind fun ap => (if (aj / 32768) = 1 then (none) else (if (wrap64 ((wrap64 ((Go.bits .and .i64 aj 8191) * 8)) + (ap.length : Int))) > 65535 then (none) else (some (wrap64 (rd l0 1), aw, ((Go.bits .and .i64 (aj / 16384) 1) == 1), ((Go.bits .and .i64 (aj / 8192) 1) == 1), wrap64 ((Go.bits .and .i64 aj 8191) * 8), wrap64 (rd l0 8), wrap64 (rd l0 9), av, aq, ax, ap, 0))))) else (none)) else (none)) else (none))) else (none)) else (none))) else (none)) else (none))) else (none)) else (none)) else (none)) else (none))) else (none)) else (none)) else (none))) else (none)) else (none)) = some (r1, r2, r3, r4, r5, r6, r7, r8, r9, aR, aS, aT) := by rw [if_neg (show ¬ (false = true) by decide)] at H; exact H
 clear H
 have H := H1
 clear H1
 by_cases aV : 6 ≤ 8
 {
 rw [if_pos aV] at H
 have c2005b0 := eq_true aV
 have c2005b1 : decide (6 ≤ 8) = true := decide_eq_true aV
 clear aV
 by_cases aW : 8 ≤ (l0.length : Int)
 {
 rw [if_pos aW] at H
 have c2006b0 := eq_true aW
 have c2006b1 : decide (8 ≤ (l0.length : Int)) = true := decide_eq_true aW
 clear aW
 replace H := Option.bind_eq_some_iff.mp H
 obtain ⟨aj, A20070, H⟩ := H
 have A2007 := Aside0.mk A20070
 clear A20070
 by_cases bd : 1 < (l0.length : Int)
 {
 rw [if_pos bd] at H
 have c2008b0 : decide (1 < (l0.length : Int)) = true := decide_eq_true bd
 have c2008b1 : decide (1 < l0.length) = true := decide_eq_true (by omega)
 clear bd
 by_cases aX : 4 ≤ 6
 {
 rw [if_pos aX] at H
 have c2009b0 := eq_true aX
 have c2009b1 : decide (4 ≤ 6) = true := decide_eq_true aX
 clear aX
 by_cases aY : 6 ≤ (l0.length : Int)
 {
 rw [if_pos aY] at H
 have c2010b0 := eq_true aY
 have c2010b1 : decide (6 ≤ (l0.length : Int)) = true := decide_eq_true aY
 clear aY
 replace H := Option.bind_eq_some_iff.mp H
 obtain ⟨aw, A20110, H⟩ := H
 have A2011 := Aside0.mk A20110
 clear A20110
 by_cases be : 8 < (l0.length : Int)
 {
 rw [if_pos be] at H
 have c2012b0 : decide (8 < (l0.length : Int)) = true := decide_eq_true be
 have c2012b1 : decide (8 < l0.length) = true := decide_eq_true (by omega)
 clear be
 by_cases bf : 9 < (l0.length : Int)
 {
 rw [if_pos bf] at H
 have c2013b0 : decide (9 < (l0.length : Int)) = true := decide_eq_true bf
 have c2013b1 : decide (9 < l0.length) = true := decide_eq_true (by omega)
 clear bf
 by_cases aZ : 12 ≤ 16
 {
 rw [if_pos aZ] at H
 have c2014b0 := eq_true aZ
 have c2014b1 : decide (12 ≤ 16) = true := decide_eq_true aZ
 clear aZ
 by_cases a0 : 16 ≤ (l0.length : Int)
 {
 rw [if_pos a0] at H
 have c2015b0 := eq_true a0
 have c2015b1 : decide (16 ≤ (l0.length : Int)) = true := decide_eq_true a0
 clear a0
 replace H := Option.bind_eq_some_iff.mp H
 obtain ⟨av, A20160, H⟩ := H
 have A2016 := Aside0.mk A20160
 clear A20160
 by_cases a1 : 16 ≤ 20
 {
 rw [if_pos a1] at H
 have c2017b0 := eq_true a1
 have c2017b1 : decide (16 ≤ 20) = true := decide_eq_true a1
 clear a1
 by_cases a2 : 20 ≤ (l0.length : Int)
 {
 rw [if_pos a2] at H
 have c2018b0 := eq_true a2
 have c2018b1 : decide (20 ≤ (l0.length : Int)) = true := decide_eq_true a2
 clear a2
 replace H := Option.bind_eq_some_iff.mp H
 obtain ⟨aq, A20190, H⟩ := H
 have A2019 := Aside0.mk A20190
 clear A20190
 by_cases a3 : 20 ≤ (ab)
 {
 rw [if_pos a3] at H
 have c2020b0 := eq_true a3
 have c2020b1 : decide (20 ≤ (ab)) = true := decide_eq_true a3
 clear a3
 by_cases a4 : (ab) ≤ (l0.length : Int)
 {
 rw [if_pos a4] at H
 have c2021b0 := eq_true a4
 have c2021b1 : decide ((ab) ≤ (l0.length : Int)) = true := decide_eq_true a4
 clear a4
 replace H := Option.bind_eq_some_iff.mp H
 obtain ⟨ax, A20220, H⟩ := H
 have A2022 := Aside0.mk A20220
 clear A20220
 by_cases a5 : 0 ≤ (ab)
 {
 rw [if_pos a5] at H
 have c2023b0 := eq_true a5
 have c2023b1 : decide (0 ≤ (ab)) = true := decide_eq_true a5
 clear a5
 by_cases a6 : (ab) ≤ al
 {
 rw [if_pos a6] at H
 have c2024b0 := eq_true a6
 have c2024b1 : decide ((ab) ≤ al) = true := decide_eq_true a6
 clear a6
 by_cases a7 : al ≤ (l0.length : Int)
 {
 rw [if_pos a7] at H
 have c2025b0 := eq_true a7
 have c2025b1 : decide (al ≤ (l0.length : Int)) = true := decide_eq_true a7
 clear a7
 replace H := Option.bind_eq_some_iff.mp H
 obtain ⟨ap, A20260, H⟩ := H
 have A2026 := Aside0.mk A20260
 clear A20260
 by_cases aI : (aj / 32768) = 1
 {
 rw [if_pos aI] at H
 have c2027b0 : ((aj / 32768) == 1) = true := beq_iff_eq.mpr aI
 have c2027b1 : ((aj / 32768) != 1) = false := bne_eq_false_iff_eq.mpr aI
 clear aI
 exact absurd H (by simp)
 }
 {
 rw [if_neg aI] at H
 have c2027b0 : ((aj / 32768) == 1) = false := beq_eq_false_iff_ne.mpr aI
 have c2027b1 : ((aj / 32768) != 1) = true := bne_iff_ne.mpr aI
 by_cases aP : (wrap64 ((wrap64 ((Go.bits .and .i64 aj 8191) * 8)) + (ap.length : Int))) > 65535
 {
 rw [if_pos aP] at H
 have c2028b0 : decide (65535 < (wrap64 ((wrap64 ((Go.bits .and .i64 aj 8191) * 8)) + (ap.length : Int)))) = true := decide_eq_true aP
 clear aP
 exact absurd H (by simp)
 }
 {
 rw [if_neg aP] at H
 have c2028b0 : decide (65535 < (wrap64 ((wrap64 ((Go.bits .and .i64 aj 8191) * 8)) + (ap.length : Int)))) = false := decide_eq_false aP
 clear aP
 simp only [Option.some.injEq, Prod.mk.injEq] at H
 obtain ⟨rfl, rfl, rfl, rfl, rfl, rfl, rfl, rfl, rfl, rfl, rfl, rfl⟩ := H
 obtain ⟨i03001, hi03001, _, hsz3001, _⟩ := info_parts info5
 obtain ⟨A3001, hcut3001, hA3001, hC3001⟩ := print_mid_of (P := Try.prog) (Value.int .u8) 0 22 5 .i64 .i64 Try.underlying22 hi03001 hsz3001 (some ad109) c0 l0 6 8 (by omega) (by first | omega | exact dT) dT a8.out
 have HR115 := Aside0.mk (Kd.C_of_reads (h1 := fun _ => rfl) (hA3001 _ (Kd.reads_of_C HR0.out)))
 have ch := Aside0.mk hC3001
 clear hA3001 hC3001 hi03001 hsz3001
 try go_wp2_with (first | ((with_reducible refine gate_callee (f := 39) rfl ?_); refine gL (hargs := (by (try simp only [List.map_toArray, List.map_cons, List.map_nil]); first | done | (rw [show ((l0.take 8).drop 6).length = (8 - 6) from (by rw [List.length_drop, List.length_take]; have h_ : (8 : Int) ≤ (l0.length : Int) := dT; omega)] <;> rfl) | rfl | (simp only [List.length_drop, List.length_take]; rfl))) (some 55) Try.func39 #[.slice A3001 ((l0.take 8).drop 6).length (c0 - 6)] ?_; (with_reducible refine (impl_get.calls ao _ _ ((l0.take 8).drop 6) aj _ ?side1 ?side2 A2007.out).mono ?_); (case side1 => exact Kd.C_below HR115.out wB); (case side2 => exact ch.out); rintro e w' ⟨rfl, ⟨nd, rfl⟩⟩; refine ⟨_, rfl, ?_⟩; (try (rw [drewN_self wc]; generalize hq_ : World.drewN wc _ = wc; replace ac := Aside0.mk (blk_at hq_ ac.out); replace ad := Aside0.mk (blk_at hq_ ad.out); replace HB := Aside0.mk (below_at hq_ HB.out); clear hq_; (try (obtain ⟨⟨bo, bp, bq, br, bs, bu, bv, bw, bz, bA, bj⟩, bB, bC, bD, bE, bF, bG, bH, bI, bJ, bK, bk⟩ := cells11 ac.out)); (try (obtain ⟨⟨bL, bM, bN, bO, bP, bQ, bR, bS, bT, bU, bl⟩, bV, bW, bX, bY, bZ, b0, b1, b2, b3, b4, bm⟩ := cells11 ad.out))))))
 have n0_ := Aside0.mk (blk_drew ac.out)
 have n1_ := Aside0.mk (blk_drew ad.out)
 have n2_ := Aside0.mk (below_drew1 HB.out)
 clear ac
 clear ad
 clear HB
 have ac := n0_
 have ad := n1_
 have HB := n2_
 clear n0_ n1_ n2_
 have p117 : 0 ≤ (1 : Int) := (by omega)
 have q117 : 1 < (l0.length : Int) := dT
 obtain ⟨ad117, e117, hx117_0⟩ := Kd.at_int HR0.out 1 p117 q117
 have hw117_0 := hx117_0
 (try rw [show ((1 : Int)).toNat = 1 from rfl] at hw117_0)
 (try rw [show 1 * 1 = 1 from rfl] at hw117_0)
 (try simp only [Nat.reduceMul, Nat.reduceEqDiff, Go.Addr.add, ↓reduceIte] at hw117_0)
 obtain rfl : ad109 = ad117 := (by injection e117)
 (try simp only [show (1 : Int).toNat = 1 from rfl, Nat.reduceMul, Nat.reduceEqDiff, Go.Addr.add, ↓reduceIte] at hx117_0)
 have qi117 : (1 < l0.length) = True := eq_true (by omega)
 (try rw [show ((1 : Int)).toNat = 1 from rfl] at hx117_0)
 replace hx117_0 := (HB.out.cell (World.block_lt_of_cell? w _ hx117_0)).trans hx117_0
 replace p117 := eq_true p117
 replace q117 := eq_true q117
 obtain ⟨i03003, hi03003, _, hsz3003, _⟩ := info_parts info5
 obtain ⟨A3003, hcut3003, hA3003, hC3003⟩ := print_mid_of (P := Try.prog) (Value.int .u8) 0 22 5 .i64 .i64 Try.underlying22 hi03003 hsz3003 (some ad109) c0 l0 4 6 (by omega) (by first | omega | exact dT) dT a8.out
 have HR118 := Aside0.mk (Kd.C_of_reads (h1 := fun _ => rfl) (hA3003 _ (Kd.reads_of_C HR0.out)))
 have b7 := Aside0.mk hC3003
 clear hA3003 hC3003 hi03003 hsz3003
 have p120 : 0 ≤ (8 : Int) := (by omega)
 have q120 : 8 < (l0.length : Int) := dT
 obtain ⟨ad120, e120, hx120_0⟩ := Kd.at_int HR0.out 8 p120 q120
 have hw120_0 := hx120_0
 (try rw [show ((8 : Int)).toNat = 8 from rfl] at hw120_0)
 (try rw [show 8 * 1 = 8 from rfl] at hw120_0)
 (try simp only [Nat.reduceMul, Nat.reduceEqDiff, Go.Addr.add, ↓reduceIte] at hw120_0)
 obtain rfl : ad109 = ad120 := (by injection e120)
 (try simp only [show (8 : Int).toNat = 8 from rfl, Nat.reduceMul, Nat.reduceEqDiff, Go.Addr.add, ↓reduceIte] at hx120_0)
 have qi120 : (8 < l0.length) = True := eq_true (by omega)
 (try rw [show ((8 : Int)).toNat = 8 from rfl] at hx120_0)
 replace hx120_0 := (HB.out.cell (World.block_lt_of_cell? w _ hx120_0)).trans hx120_0
 replace p120 := eq_true p120
 replace q120 := eq_true q120
 have p121 : 0 ≤ (9 : Int) := (by omega)
 have q121 : 9 < (l0.length : Int) := dT
 obtain ⟨ad121, e121, hx121_0⟩ := Kd.at_int HR0.out 9 p121 q121
 have hw121_0 := hx121_0
 (try rw [show ((9 : Int)).toNat = 9 from rfl] at hw121_0)
 (try rw [show 9 * 1 = 9 from rfl] at hw121_0)
 (try simp only [Nat.reduceMul, Nat.reduceEqDiff, Go.Addr.add, ↓reduceIte] at hw121_0)
 obtain rfl : ad109 = ad121 := (by injection e121)
 (try simp only [show (9 : Int).toNat = 9 from rfl, Nat.reduceMul, Nat.reduceEqDiff, Go.Addr.add, ↓reduceIte] at hx121_0)
 have qi121 : (9 < l0.length) = True := eq_true (by omega)
 (try rw [show ((9 : Int)).toNat = 9 from rfl] at hx121_0)
 replace hx121_0 := (HB.out.cell (World.block_lt_of_cell? w _ hx121_0)).trans hx121_0
 replace p121 := eq_true p121
 replace q121 := eq_true q121
 obtain ⟨i03004, hi03004, _, hsz3004, _⟩ := info_parts info5
 obtain ⟨A3004, hcut3004, hA3004, hC3004⟩ := print_mid_of (P := Try.prog) (Value.int .u8) 0 22 5 .i64 .i64 Try.underlying22 hi03004 hsz3004 (some ad109) c0 l0 12 16 (by omega) (by first | omega | exact dT) dT a8.out
 have HR122 := Aside0.mk (Kd.C_of_reads (h1 := fun _ => rfl) (hA3004 _ (Kd.reads_of_C HR0.out)))
 have b5 := Aside0.mk hC3004
 clear hA3004 hC3004 hi03004 hsz3004
 obtain ⟨i03005, hi03005, _, hsz3005, _⟩ := info_parts info5
 obtain ⟨A3005, hcut3005, hA3005, hC3005⟩ := print_mid_of (P := Try.prog) (Value.int .u8) 0 22 5 .i64 .i64 Try.underlying22 hi03005 hsz3005 (some ad109) c0 l0 16 20 (by omega) (by first | omega | exact dT) dT a8.out
 have HR124 := Aside0.mk (Kd.C_of_reads (h1 := fun _ => rfl) (hA3005 _ (Kd.reads_of_C HR0.out)))
 have bg := Aside0.mk hC3005
 clear hA3005 hC3005 hi03005 hsz3005
 refine start_ (n := 35) (S := fun w' => w'.cell? ⟨ad109.block, ad109.off + 1, none⟩ = some (.int .u8 (rd l0 1)) ∧ w'.cell? ⟨ad109.block, ad109.off + 8, none⟩ = some (.int .u8 (rd l0 8)) ∧ w'.cell? ⟨ad109.block, ad109.off + 9, none⟩ = some (.int .u8 (rd l0 9))) (ds := []) #[false, false, false, false, false, false, false, false, false, false, false, false, false, false, false, false, false, false, false, false, false, false, false, false, false, false, false, false, false, false, false, false, false, false, false] (by kernel_rfl) rfl rfl ⟨((HB.out.cell (World.block_lt_of_cell? w _ hw117_0)).trans hw117_0), ((HB.out.cell (World.block_lt_of_cell? w _ hw120_0)).trans hw120_0), ((HB.out.cell (World.block_lt_of_cell? w _ hw121_0)).trans hw121_0)⟩ (fun hHeld => ?_); refine with_tabW impl_DecodeIP.tab15 impl_DecodeIP.bits15 (fun HT_ HW_ => ?_)
 generalize wc.drew = d7 at ac ad HB HR118 HR122 HR124 hx117_0 hx120_0 hx121_0 hHeld ⊢
 refine pure_ (i := 0) (N := some 56) (v := ?_) (a' := ?_) #[true, false, false, false, false, false, false, false, false, false, false, false, false, false, false, false, false, false, false, false, false, false, false, false, false, false, false, false, false, false, false, false, false, false, false] rfl rfl (any_of HT_.out (by kernel_rfl)) (fun _ _ _ h => h) (Or.inl ⟨by rfl, ?_⟩) ?_ ?_
 rotate_left
 {
 intro w'
 go_simp
 with_reducible rfl
 }
 rotate_left
 {
 simp only [Act.put, List.setIfInBounds_toArray, List.set_cons_zero, List.set_cons_succ, i64_w, i32_w]
 rfl
 }
 refine pure_ (i := 1) (N := some 57) (v := ?_) (a' := ?_) #[true, true, false, false, false, false, false, false, false, false, false, false, false, false, false, false, false, false, false, false, false, false, false, false, false, false, false, false, false, false, false, false, false, false, false] rfl rfl (any_of HT_.out (by kernel_rfl)) (fun _ _ _ h => h) (Or.inl ⟨by rfl, ?_⟩) ?_ ?_
 rotate_left
 {
 intro w'
 go_simp
 with_reducible rfl
 }
 rotate_left
 {
 simp only [Act.put, List.setIfInBounds_toArray, List.set_cons_zero, List.set_cons_succ, i64_w, i32_w]
 rfl
 }
 refine pure_ (i := 4) (N := some 60) (v := ?_) (a' := ?_) #[true, true, false, false, true, false, false, false, false, false, false, false, false, false, false, false, false, false, false, false, false, false, false, false, false, false, false, false, false, false, false, false, false, false, false] rfl rfl (any_of HT_.out (by kernel_rfl)) (fun _ _ _ h => h) (Or.inl ⟨by rfl, ?_⟩) ?_ ?_
 rotate_left
 {
 intro w'
 go_simp
 with_reducible rfl
 }
 rotate_left
 {
 simp only [Act.put, List.setIfInBounds_toArray, List.set_cons_zero, List.set_cons_succ, i64_w, i32_w]
 rfl
 }
 refine pure_ (i := 5) (N := some 61) (v := ?_) (a' := ?_) #[true, true, false, false, true, true, false, false, false, false, false, false, false, false, false, false, false, false, false, false, false, false, false, false, false, false, false, false, false, false, false, false, false, false, false] rfl rfl (any_of HT_.out (by kernel_rfl)) (fun _ _ _ h => h) (Or.inl ⟨by rfl, ?_⟩) ?_ ?_
 rotate_left
 {
 intro w'
 go_simp
 with_reducible rfl
 }
 rotate_left
 {
 simp only [Act.put, List.setIfInBounds_toArray, List.set_cons_zero, List.set_cons_succ, i64_w, i32_w]
 rfl
 }
 refine pure_ (i := 7) (N := some 63) (v := ?_) (a' := ?_) #[true, true, false, false, true, true, false, true, false, false, false, false, false, false, false, false, false, false, false, false, false, false, false, false, false, false, false, false, false, false, false, false, false, false, false] rfl rfl (any_of HT_.out (by kernel_rfl)) (fun _ _ _ h => h) (Or.inl ⟨by rfl, ?_⟩) ?_ ?_
 rotate_left
 {
 intro w'
 go_simp
 with_reducible rfl
 }
 rotate_left
 {
 simp only [Act.put, List.setIfInBounds_toArray, List.set_cons_zero, List.set_cons_succ, i64_w, i32_w]
 rfl
 }
 refine pure_ (i := 8) (N := some 64) (v := ?_) (a' := ?_) #[true, true, false, false, true, true, false, true, true, false, false, false, false, false, false, false, false, false, false, false, false, false, false, false, false, false, false, false, false, false, false, false, false, false, false] rfl rfl (any_of HT_.out (by kernel_rfl)) (fun _ _ _ h => h) (Or.inl ⟨by rfl, ?_⟩) ?_ ?_
 rotate_left
 {
 intro w'
 go_simp
 with_reducible rfl
 }
 rotate_left
 {
 simp only [Act.put, List.setIfInBounds_toArray, List.set_cons_zero, List.set_cons_succ, i64_w, i32_w]
 rfl
 }
 refine pure_ (i := 9) (N := some 65) (v := ?_) (a' := ?_) #[true, true, false, false, true, true, false, true, true, true, false, false, false, false, false, false, false, false, false, false, false, false, false, false, false, false, false, false, false, false, false, false, false, false, false] rfl rfl (any_of HT_.out (by kernel_rfl)) (fun _ _ _ h => h) (Or.inl ⟨by rfl, ?_⟩) ?_ ?_
 rotate_left
 {
 intro w'
 go_simp
 with_reducible rfl
 }
 rotate_left
 {
 simp only [Act.put, List.setIfInBounds_toArray, List.set_cons_zero, List.set_cons_succ, i64_w, i32_w]
 rfl
 }
 refine pure_ (i := 10) (N := some 66) (v := ?_) (a' := ?_) #[true, true, false, false, true, true, false, true, true, true, true, false, false, false, false, false, false, false, false, false, false, false, false, false, false, false, false, false, false, false, false, false, false, false, false] rfl rfl (any_of HT_.out (by kernel_rfl)) (fun _ _ _ h => h) (Or.inl ⟨by rfl, ?_⟩) ?_ ?_
 rotate_left
 {
 intro w'
 go_simp
 with_reducible rfl
 }
 rotate_left
 {
 simp only [Act.put, List.setIfInBounds_toArray, List.set_cons_zero, List.set_cons_succ, i64_w, i32_w]
 rfl
 }
 refine pure_ (i := 11) (N := some 67) (v := ?_) (a' := ?_) #[true, true, false, false, true, true, false, true, true, true, true, true, false, false, false, false, false, false, false, false, false, false, false, false, false, false, false, false, false, false, false, false, false, false, false] rfl rfl (any_of HT_.out (by kernel_rfl)) (fun _ _ _ h => h) (Or.inl ⟨by rfl, ?_⟩) ?_ ?_
 rotate_left
 {
 intro w'
 go_simp
 with_reducible rfl
 }
 rotate_left
 {
 simp only [Act.put, List.setIfInBounds_toArray, List.set_cons_zero, List.set_cons_succ, i64_w, i32_w]
 rfl
 }
 refine pure_ (i := 12) (N := some 68) (v := ?_) (a' := ?_) #[true, true, false, false, true, true, false, true, true, true, true, true, true, false, false, false, false, false, false, false, false, false, false, false, false, false, false, false, false, false, false, false, false, false, false] rfl rfl (any_of HT_.out (by kernel_rfl)) (fun _ _ _ h => h) (Or.inl ⟨by rfl, ?_⟩) ?_ ?_
 rotate_left
 {
 intro w'
 go_simp
 with_reducible rfl
 }
 rotate_left
 {
 simp only [Act.put, List.setIfInBounds_toArray, List.set_cons_zero, List.set_cons_succ, i64_w, i32_w]
 rfl
 }
 refine pure_ (i := 13) (N := some 69) (v := ?_) (a' := ?_) #[true, true, false, false, true, true, false, true, true, true, true, true, true, true, false, false, false, false, false, false, false, false, false, false, false, false, false, false, false, false, false, false, false, false, false] rfl rfl (any_of HT_.out (by kernel_rfl)) (fun _ _ _ h => h) (Or.inl ⟨by rfl, ?_⟩) ?_ ?_
 rotate_left
 {
 intro w'
 go_simp
 with_reducible rfl
 }
 rotate_left
 {
 simp only [Act.put, List.setIfInBounds_toArray, List.set_cons_zero, List.set_cons_succ, i64_w, i32_w]
 rfl
 }
 refine pure_ (i := 14) (N := some 70) (v := ?_) (a' := ?_) #[true, true, false, false, true, true, false, true, true, true, true, true, true, true, true, false, false, false, false, false, false, false, false, false, false, false, false, false, false, false, false, false, false, false, false] rfl rfl (any_of HT_.out (by kernel_rfl)) (fun _ _ _ h => h) (Or.inl ⟨by rfl, ?_⟩) ?_ ?_
 rotate_left
 {
 intro w'
 go_simp
 with_reducible rfl
 }
 rotate_left
 {
 simp only [Act.put, List.setIfInBounds_toArray, List.set_cons_zero, List.set_cons_succ, i64_w, i32_w]
 rfl
 }
 refine pure_ (i := 15) (N := some 71) (v := ?_) (a' := ?_) #[true, true, false, false, true, true, false, true, true, true, true, true, true, true, true, true, false, false, false, false, false, false, false, false, false, false, false, false, false, false, false, false, false, false, false] rfl rfl (any_of HT_.out (by kernel_rfl)) (fun _ _ _ h => h) (Or.inl ⟨by rfl, ?_⟩) ?_ ?_
 rotate_left
 {
 intro w'
 go_simp
 with_reducible rfl
 }
 rotate_left
 {
 simp only [Act.put, List.setIfInBounds_toArray, List.set_cons_zero, List.set_cons_succ, i64_w, i32_w]
 rfl
 }
 refine pure_ (i := 16) (N := some 72) (v := ?_) (a' := ?_) #[true, true, false, false, true, true, false, true, true, true, true, true, true, true, true, true, true, false, false, false, false, false, false, false, false, false, false, false, false, false, false, false, false, false, false] rfl rfl (any_of HT_.out (by kernel_rfl)) (fun _ _ _ h => h) (Or.inl ⟨by rfl, ?_⟩) ?_ ?_
 rotate_left
 {
 intro w'
 go_simp
 with_reducible rfl
 }
 rotate_left
 {
 simp only [Act.put, List.setIfInBounds_toArray, List.set_cons_zero, List.set_cons_succ, i64_w, i32_w]
 rfl
 }
 refine pure_ (i := 17) (N := some 73) (v := ?_) (a' := ?_) #[true, true, false, false, true, true, false, true, true, true, true, true, true, true, true, true, true, true, false, false, false, false, false, false, false, false, false, false, false, false, false, false, false, false, false] rfl rfl (any_of HT_.out (by kernel_rfl)) (fun _ _ _ h => h) (Or.inl ⟨by rfl, ?_⟩) ?_ ?_
 rotate_left
 {
 intro w'
 go_simp
 with_reducible rfl
 }
 rotate_left
 {
 simp only [Act.put, List.setIfInBounds_toArray, List.set_cons_zero, List.set_cons_succ, i64_w, i32_w]
 rfl
 }
 refine pure_ (i := 18) (N := some 74) (v := ?_) (a' := ?_) #[true, true, false, false, true, true, false, true, true, true, true, true, true, true, true, true, true, true, true, false, false, false, false, false, false, false, false, false, false, false, false, false, false, false, false] rfl rfl (any_of HT_.out (by kernel_rfl)) (fun _ _ _ h => h) (Or.inl ⟨by rfl, ?_⟩) ?_ ?_
 rotate_left
 {
 intro w'
 go_simp
 with_reducible rfl
 }
 rotate_left
 {
 simp only [Act.put, List.setIfInBounds_toArray, List.set_cons_zero, List.set_cons_succ, i64_w, i32_w]
 rfl
 }
 refine pure_ (i := 19) (N := some 75) (v := ?_) (a' := ?_) #[true, true, false, false, true, true, false, true, true, true, true, true, true, true, true, true, true, true, true, true, false, false, false, false, false, false, false, false, false, false, false, false, false, false, false] rfl rfl (any_of HT_.out (by kernel_rfl)) (fun _ _ _ h => h) (Or.inl ⟨by rfl, ?_⟩) ?_ ?_
 rotate_left
 {
 intro w'
 go_simp
 with_reducible rfl
 }
 rotate_left
 {
 simp only [Act.put, List.setIfInBounds_toArray, List.set_cons_zero, List.set_cons_succ, i64_w, i32_w]
 rfl
 }
 refine pure_ (i := 22) (N := some 78) (v := ?_) (a' := ?_) #[true, true, false, false, true, true, false, true, true, true, true, true, true, true, true, true, true, true, true, true, false, false, true, false, false, false, false, false, false, false, false, false, false, false, false] rfl rfl (any_of HT_.out (by kernel_rfl)) (fun _ _ _ h => h) (Or.inl ⟨by rfl, ?_⟩) ?_ ?_
 rotate_left
 {
 intro w'
 go_simp
 with_reducible rfl
 }
 rotate_left
 {
 simp only [Act.put, List.setIfInBounds_toArray, List.set_cons_zero, List.set_cons_succ, i64_w, i32_w]
 rfl
 }
 refine pure_ (i := 23) (N := some 79) (v := ?_) (a' := ?_) #[true, true, false, false, true, true, false, true, true, true, true, true, true, true, true, true, true, true, true, true, false, false, true, true, false, false, false, false, false, false, false, false, false, false, false] rfl rfl (any_of HT_.out (by kernel_rfl)) (fun _ _ _ h => h) (Or.inl ⟨by rfl, ?_⟩) ?_ ?_
 rotate_left
 {
 intro w'
 go_simp
 with_reducible rfl
 }
 rotate_left
 {
 simp only [Act.put, List.setIfInBounds_toArray, List.set_cons_zero, List.set_cons_succ, i64_w, i32_w]
 rfl
 }
 refine pure_ (i := 26) (N := some 82) (v := ?_) (a' := ?_) #[true, true, false, false, true, true, false, true, true, true, true, true, true, true, true, true, true, true, true, true, false, false, true, true, false, false, true, false, false, false, false, false, false, false, false] rfl rfl (any_of HT_.out (by kernel_rfl)) (fun _ _ _ h => h) (Or.inl ⟨by rfl, ?_⟩) ?_ ?_
 rotate_left
 {
 intro w'
 go_simp
 with_reducible rfl
 }
 rotate_left
 {
 simp only [Act.put, List.setIfInBounds_toArray, List.set_cons_zero, List.set_cons_succ, i64_w, i32_w]
 rfl
 }
 refine pure_ (i := 27) (N := some 83) (v := ?_) (a' := ?_) #[true, true, false, false, true, true, false, true, true, true, true, true, true, true, true, true, true, true, true, true, false, false, true, true, false, false, true, true, false, false, false, false, false, false, false] rfl rfl (any_of HT_.out (by kernel_rfl)) (fun _ _ _ h => h) (Or.inl ⟨by rfl, ?_⟩) ?_ ?_
 rotate_left
 {
 intro w'
 go_simp
 with_reducible rfl
 }
 rotate_left
 {
 simp only [Act.put, List.setIfInBounds_toArray, List.set_cons_zero, List.set_cons_succ, i64_w, i32_w]
 rfl
 }
 refine pure_ (i := 29) (N := some 85) (v := ?_) (a' := ?_) #[true, true, false, false, true, true, false, true, true, true, true, true, true, true, true, true, true, true, true, true, false, false, true, true, false, false, true, true, false, true, false, false, false, false, false] rfl rfl (any_of HT_.out (by kernel_rfl)) (fun _ _ _ h => h) (Or.inl ⟨by rfl, ?_⟩) ?_ ?_
 rotate_left
 {
 intro w'
 go_simp
 with_reducible rfl
 }
 rotate_left
 {
 simp only [Act.put, List.setIfInBounds_toArray, List.set_cons_zero, List.set_cons_succ, i64_w, i32_w]
 rfl
 }
 refine pure_ (i := 30) (N := some 86) (v := ?_) (a' := ?_) #[true, true, false, false, true, true, false, true, true, true, true, true, true, true, true, true, true, true, true, true, false, false, true, true, false, false, true, true, false, true, true, false, false, false, false] rfl rfl (any_of HT_.out (by kernel_rfl)) (fun _ _ _ h => h) (Or.inl ⟨by rfl, ?_⟩) ?_ ?_
 rotate_left
 {
 intro w'
 go_simp
 with_reducible rfl
 }
 rotate_left
 {
 simp only [Act.put, List.setIfInBounds_toArray, List.set_cons_zero, List.set_cons_succ, i64_w, i32_w]
 rfl
 }
 refine take_ (i := 2) (N := some 58) (v := ?_) (a' := ?_) #[true, true, true, false, true, true, false, true, true, true, true, true, true, true, true, true, true, true, true, true, false, false, true, true, false, false, true, true, false, true, true, false, false, false, false] rfl rfl (take_ofW HT_.out HW_.out (by kernel_rfl)) (fun _ _ _ h => h) (Or.inl ⟨by rfl, ?_⟩) hHeld ?_ ?_
 rotate_left
 {
 rintro w' ⟨s0, s1, s2⟩
 go_simp
 with_reducible rfl
 }
 rotate_left
 {
 simp only [Act.put, List.setIfInBounds_toArray, List.set_cons_zero, List.set_cons_succ, i64_w, i32_w]
 rfl
 }
 refine pure_ (i := 3) (N := some 59) (v := ?_) (a' := ?_) #[true, true, true, true, true, true, false, true, true, true, true, true, true, true, true, true, true, true, true, true, false, false, true, true, false, false, true, true, false, true, true, false, false, false, false] rfl rfl (any_of HT_.out (by kernel_rfl)) (fun _ _ _ h => h) (Or.inl ⟨by rfl, ?_⟩) ?_ ?_
 rotate_left
 {
 intro w'
 go_simp
 with_reducible rfl
 }
 rotate_left
 {
 simp only [Act.put, List.setIfInBounds_toArray, List.set_cons_zero, List.set_cons_succ, i64_w, i32_w]
 rfl
 }
 refine take_ (i := 20) (N := some 76) (v := ?_) (a' := ?_) #[true, true, true, true, true, true, false, true, true, true, true, true, true, true, true, true, true, true, true, true, true, false, true, true, false, false, true, true, false, true, true, false, false, false, false] rfl rfl (take_ofW HT_.out HW_.out (by kernel_rfl)) (fun _ _ _ h => h) (Or.inl ⟨by rfl, ?_⟩) hHeld ?_ ?_
 rotate_left
 {
 rintro w' ⟨s0, s1, s2⟩
 go_simp
 with_reducible rfl
 }
 rotate_left
 {
 simp only [Act.put, List.setIfInBounds_toArray, List.set_cons_zero, List.set_cons_succ, i64_w, i32_w]
 rfl
 }
 refine pure_ (i := 21) (N := some 77) (v := ?_) (a' := ?_) #[true, true, true, true, true, true, false, true, true, true, true, true, true, true, true, true, true, true, true, true, true, true, true, true, false, false, true, true, false, true, true, false, false, false, false] rfl rfl (any_of HT_.out (by kernel_rfl)) (fun _ _ _ h => h) (Or.inl ⟨by rfl, ?_⟩) ?_ ?_
 rotate_left
 {
 intro w'
 go_simp
 with_reducible rfl
 }
 rotate_left
 {
 simp only [Act.put, List.setIfInBounds_toArray, List.set_cons_zero, List.set_cons_succ, i64_w, i32_w]
 rfl
 }
 refine take_ (i := 24) (N := some 80) (v := ?_) (a' := ?_) #[true, true, true, true, true, true, false, true, true, true, true, true, true, true, true, true, true, true, true, true, true, true, true, true, true, false, true, true, false, true, true, false, false, false, false] rfl rfl (take_ofW HT_.out HW_.out (by kernel_rfl)) (fun _ _ _ h => h) (Or.inl ⟨by rfl, ?_⟩) hHeld ?_ ?_
 rotate_left
 {
 rintro w' ⟨s0, s1, s2⟩
 go_simp
 with_reducible rfl
 }
 rotate_left
 {
 simp only [Act.put, List.setIfInBounds_toArray, List.set_cons_zero, List.set_cons_succ, i64_w, i32_w]
 rfl
 }
 refine pure_ (i := 25) (N := some 81) (v := ?_) (a' := ?_) #[true, true, true, true, true, true, false, true, true, true, true, true, true, true, true, true, true, true, true, true, true, true, true, true, true, true, true, true, false, true, true, false, false, false, false] rfl rfl (any_of HT_.out (by kernel_rfl)) (fun _ _ _ h => h) (Or.inl ⟨by rfl, ?_⟩) ?_ ?_
 rotate_left
 {
 intro w'
 go_simp
 with_reducible rfl
 }
 rotate_left
 {
 simp only [Act.put, List.setIfInBounds_toArray, List.set_cons_zero, List.set_cons_succ, i64_w, i32_w]
 rfl
 }
 refine join_ (σ := Nat) 1 #[true, true, true, true, true, true, true, true, true, true, true, true, true, true, true, true, true, true, true, true, true, true, true, true, true, true, true, true, true, true, true, true, true, true, false] (fun s_ => [(62, .int .i64 aw), (84, .int .i64 av), (87, .int .i64 aq), (8, .pointer (some ⟨s_, 0, none⟩)), (88, .agg #[.int .i64 (wrap64 (rd l0 1)), .int .i64 aw, .bool ((Go.bits .and .i64 (aj / 16384) 1) == 1), .bool ((Go.bits .and .i64 (aj / 8192) 1) == 1), .int .i64 (wrap64 ((Go.bits .and .i64 aj 8191) * 8)), .int .i64 (wrap64 (rd l0 8)), .int .i64 (wrap64 (rd l0 9)), .int .i64 av, .int .i64 aq, .slice none 0 0, .slice none 0 0])]) (fun s_ w' => (w'.cell? ⟨ad109.block, ad109.off + 1, none⟩ = some (.int .u8 (rd l0 1)) ∧ w'.cell? ⟨ad109.block, ad109.off + 8, none⟩ = some (.int .u8 (rd l0 8)) ∧ w'.cell? ⟨ad109.block, ad109.off + 9, none⟩ = some (.int .u8 (rd l0 9))) ∧ (w'.heap[ak]? = some (.cells #[.int .i64 0, .int .i64 0, .bool false, .bool false, .int .i64 0, .int .i64 0, .int .i64 0, .int .i64 0, .int .i64 0, .slice none 0 0, .slice none 0 0] 25 (0, 0))) ∧ (w'.heap[am]? = some (.cells #[.int .i64 0, .int .i64 0, .bool false, .bool false, .int .i64 0, .int .i64 0, .int .i64 0, .int .i64 0, .int .i64 0, .slice none 0 0, .slice none 0 0] 25 (0, 0))) ∧ (w'.heap[s_]? = some (.cells #[.int .i64 0, .int .i64 0, .bool false, .bool false, .int .i64 0, .int .i64 0, .int .i64 0, .int .i64 0, .int .i64 0, .slice none 0 0, .slice none 0 0] 25 (0, 0))) ∧ (w.heap.size ≤ s_) ∧ (w.heap.size ≤ s_) ∧ (ak ≠ s_) ∧ (s_ ≠ ak) ∧ (am ≠ s_) ∧ (s_ ≠ am) ∧ (Below w.heap.size w w')) ?_ ?_
 rotate_left
 {
 intro hCont
 refine two_ (i := 6) (j := 33) (Ni := some 62) (Nj := some 8) #[true, true, true, true, true, true, true, true, true, true, true, true, true, true, true, true, true, true, true, true, true, true, true, true, true, true, true, true, false, true, true, false, false, false, false] #[true, true, true, true, true, true, false, true, true, true, true, true, true, true, true, true, true, true, true, true, true, true, true, true, true, true, true, true, false, true, true, false, false, true, false] rfl rfl rfl rfl (two_of HT_.out (by kernel_rfl)) (by decide) (by decide) (fun K hK => ?_) (fun K hK => ?_)
 {
 skip
 refine goes_ Try.func39 (by kernel_rfl) rfl #[.slice A3003 ((l0.take 6).drop 4).length (c0 - 4)] (by rfl) rfl rfl (by (try simp only [List.map_toArray, List.map_cons, List.map_nil]); first | done | (rw [show ((l0.take 6).drop 4).length = (6 - 4) from (by rw [List.length_drop, List.length_take]; have h_ : (6 : Int) ≤ (l0.length : Int) := dT; omega)] <;> rfl) | rfl | (simp only [List.length_drop, List.length_take]; rfl)) ?_
 with_reducible refine (impl_get.calls ao _ _ ((l0.take 6).drop 4) aw _ ?side1 ?side2 A2011.out).mono ?_
 (case side1 => exact Kd.C_below HR118.out wB)
 (case side2 => exact b7.out)
 rintro e w' ⟨rfl, ⟨nd, rfl⟩⟩
 refine ⟨_, rfl, ?_⟩
 refine hK.out _ _ ⟨((HB.out.cell (World.block_lt_of_cell? w _ hw117_0)).trans hw117_0), ((HB.out.cell (World.block_lt_of_cell? w _ hw120_0)).trans hw120_0), ((HB.out.cell (World.block_lt_of_cell? w _ hw121_0)).trans hw121_0)⟩ (fun hHeld => ?_)
 clear hK K
 refine norm_ (a' := ?_) ?_ ?_
 rotate_left
 {
 show Act.put _ (some 62) _ = _
 simp only [Act.put, List.setIfInBounds_toArray, List.set_cons_zero, List.set_cons_succ, i64_w, i32_w]
 rfl
 }
 refine two_ (i := 28) (j := 33) (Ni := some 84) (Nj := some 8) #[true, true, true, true, true, true, true, true, true, true, true, true, true, true, true, true, true, true, true, true, true, true, true, true, true, true, true, true, true, true, true, false, false, false, false] #[true, true, true, true, true, true, true, true, true, true, true, true, true, true, true, true, true, true, true, true, true, true, true, true, true, true, true, true, false, true, true, false, false, true, false] rfl rfl rfl rfl (two_of HT_.out (by kernel_rfl)) (by decide) (by decide) (fun K hK => ?_) (fun K hK => ?_)
 {
 skip
 refine goes_ Try.func39 (by kernel_rfl) rfl #[.slice A3004 ((l0.take 16).drop 12).length (c0 - 12)] (by rfl) rfl rfl (by (try simp only [List.map_toArray, List.map_cons, List.map_nil]); first | done | (rw [show ((l0.take 16).drop 12).length = (16 - 12) from (by rw [List.length_drop, List.length_take]; have h_ : (16 : Int) ≤ (l0.length : Int) := dT; omega)] <;> rfl) | rfl | (simp only [List.length_drop, List.length_take]; rfl)) ?_
 with_reducible refine (impl_get.calls ao _ _ ((l0.take 16).drop 12) av _ ?side1 ?side2 A2016.out).mono ?_
 (case side1 => repeat (first | exact (Kd.C_below HR122.out wB) | (with_reducible refine Kd.C_alloc ?_ _) | (with_reducible refine Kd.C_drewN ?_ _) | (with_reducible refine Kd.C_drew ?_)))
 (case side2 => exact b5.out)
 rintro e w' ⟨rfl, ⟨nd, rfl⟩⟩
 refine ⟨_, rfl, ?_⟩
 refine hK.out _ _ ⟨((HB.out.cell (World.block_lt_of_cell? w _ hw117_0)).trans hw117_0), ((HB.out.cell (World.block_lt_of_cell? w _ hw120_0)).trans hw120_0), ((HB.out.cell (World.block_lt_of_cell? w _ hw121_0)).trans hw121_0)⟩ (fun hHeld => ?_)
 clear hK K
 refine norm_ (a' := ?_) ?_ ?_
 rotate_left
 {
 show Act.put _ (some 84) _ = _
 simp only [Act.put, List.setIfInBounds_toArray, List.set_cons_zero, List.set_cons_succ, i64_w, i32_w]
 rfl
 }
 refine two_ (i := 31) (j := 33) (Ni := some 87) (Nj := some 8) #[true, true, true, true, true, true, true, true, true, true, true, true, true, true, true, true, true, true, true, true, true, true, true, true, true, true, true, true, true, true, true, true, false, false, false] #[true, true, true, true, true, true, true, true, true, true, true, true, true, true, true, true, true, true, true, true, true, true, true, true, true, true, true, true, true, true, true, false, false, true, false] rfl rfl rfl rfl (two_of HT_.out (by kernel_rfl)) (by decide) (by decide) (fun K hK => ?_) (fun K hK => ?_)
 {
 skip
 refine goes_ Try.func39 (by kernel_rfl) rfl #[.slice A3005 ((l0.take 20).drop 16).length (c0 - 16)] (by rfl) rfl rfl (by (try simp only [List.map_toArray, List.map_cons, List.map_nil]); first | done | (rw [show ((l0.take 20).drop 16).length = (20 - 16) from (by rw [List.length_drop, List.length_take]; have h_ : (20 : Int) ≤ (l0.length : Int) := dT; omega)] <;> rfl) | rfl | (simp only [List.length_drop, List.length_take]; rfl)) ?_
 with_reducible refine (impl_get.calls ao _ _ ((l0.take 20).drop 16) aq _ ?side1 ?side2 A2019.out).mono ?_
 (case side1 => repeat (first | exact (Kd.C_below HR124.out wB) | (with_reducible refine Kd.C_alloc ?_ _) | (with_reducible refine Kd.C_drewN ?_ _) | (with_reducible refine Kd.C_drew ?_)))
 (case side2 => exact bg.out)
 rintro e w' ⟨rfl, ⟨nd, rfl⟩⟩
 refine ⟨_, rfl, ?_⟩
 refine hK.out _ _ ⟨((HB.out.cell (World.block_lt_of_cell? w _ hw117_0)).trans hw117_0), ((HB.out.cell (World.block_lt_of_cell? w _ hw120_0)).trans hw120_0), ((HB.out.cell (World.block_lt_of_cell? w _ hw121_0)).trans hw121_0)⟩ (fun hHeld => ?_)
 clear hK K
 refine norm_ (a' := ?_) ?_ ?_
 rotate_left
 {
 show Act.put _ (some 87) _ = _
 simp only [Act.put, List.setIfInBounds_toArray, List.set_cons_zero, List.set_cons_succ, i64_w, i32_w]
 rfl
 }
 refine pure_ (i := 32) (N := some 88) (v := ?_) (a' := ?_) #[true, true, true, true, true, true, true, true, true, true, true, true, true, true, true, true, true, true, true, true, true, true, true, true, true, true, true, true, true, true, true, true, true, false, false] rfl rfl (any_of HT_.out (by kernel_rfl)) (fun _ _ _ h => h) (Or.inl ⟨by rfl, ?_⟩) ?_ ?_
 rotate_left
 {
 intro w'
 go_simp
 with_reducible rfl
 }
 rotate_left
 {
 simp only [Act.put, List.setIfInBounds_toArray, List.set_cons_zero, List.set_cons_succ, i64_w, i32_w]
 rfl
 }
 refine one_ (i := 33) (N := some 8) #[true, true, true, true, true, true, true, true, true, true, true, true, true, true, true, true, true, true, true, true, true, true, true, true, true, true, true, true, true, true, true, true, true, true, false] rfl rfl (one_of HT_.out (by kernel_rfl)) (by decide) (fun K hK => ?_)
 refine box_step ?hg (N := 8) ?hd (cs := #[.int .i64 0, .int .i64 0, .bool false, .bool false, .int .i64 0, .int .i64 0, .int .i64 0, .int .i64 0, .int .i64 0, .slice none 0 0, .slice none 0 0]) (t := 25) ?hr ?_; (case hd => rfl); (case hg => rfl); (case hr => first | (go_simp; done) | (go_simp; rfl))
 intro aa hg b6 hbox hb
 have n0_ := Aside0.mk (blk_below (Bh ac) hb)
 have n1_ := Aside0.mk (blk_below (Bh ad) hb)
 have n2_ := Aside0.mk (below_step wB hb)
 have n3_ := Aside0.mk (hbox)
 have n4_ := Aside0.mk ((by rw [hg]; exact (below_size wB) : w.heap.size ≤ aa))
 have n5_ := Aside0.mk ((by rw [hg]; exact (below_size wB) : w.heap.size ≤ aa))
 have n6_ := Aside0.mk ((by rw [hg]; exact Nat.ne_of_lt (blk_lt (Bh ac)) : ak ≠ aa))
 have n7_ := Aside0.mk ((by rw [hg]; exact Nat.ne_of_gt (blk_lt (Bh ac)) : aa ≠ ak))
 have n8_ := Aside0.mk ((by rw [hg]; exact Nat.ne_of_lt (blk_lt (Bh ad)) : am ≠ aa))
 have n9_ := Aside0.mk ((by rw [hg]; exact Nat.ne_of_gt (blk_lt (Bh ad)) : aa ≠ am))
 clear ac
 clear ad
 clear HB
 have ac := n0_
 have ad := n1_
 have HB := n2_
 have ae := n3_
 have ay := n4_
 have aE := n5_
 have af := n6_
 have ah := n7_
 have ag := n8_
 have ai := n9_
 clear n0_ n1_ n2_ n3_ n4_ n5_ n6_ n7_ n8_ n9_
 clear hb hbox hg
 refine hK.out _ _ ⟨((HB.out.cell (World.block_lt_of_cell? w _ hw117_0)).trans hw117_0), ((HB.out.cell (World.block_lt_of_cell? w _ hw120_0)).trans hw120_0), ((HB.out.cell (World.block_lt_of_cell? w _ hw121_0)).trans hw121_0)⟩ (fun hHeld => ?_)
 clear hK K
 refine norm_ (a' := ?_) ?_ ?_
 rotate_left
 {
 show Act.put _ (some 8) _ = _
 simp only [Act.put, List.setIfInBounds_toArray, List.set_cons_zero, List.set_cons_succ, i64_w, i32_w]
 rfl
 }
 exact norm_ (by simp only [putAll, Act.put, List.setIfInBounds_toArray, List.set_cons_zero, List.set_cons_succ]) (hCont (aa) _ ⟨hHeld, (Bh ac), (Bh ad), (Bh ae), ay.out, aE.out, af.out, ah.out, ag.out, ai.out, wB⟩)
 }
 {
 skip
 refine box_step ?hg (N := 8) ?hd (cs := #[.int .i64 0, .int .i64 0, .bool false, .bool false, .int .i64 0, .int .i64 0, .int .i64 0, .int .i64 0, .int .i64 0, .slice none 0 0, .slice none 0 0]) (t := 25) ?hr ?_; (case hd => rfl); (case hg => rfl); (case hr => first | (go_simp; done) | (go_simp; rfl))
 intro aa hg b6 hbox hb
 have n0_ := Aside0.mk (blk_below (Bh ac) hb)
 have n1_ := Aside0.mk (blk_below (Bh ad) hb)
 have n2_ := Aside0.mk (below_step wB hb)
 have n3_ := Aside0.mk (hbox)
 have n4_ := Aside0.mk ((by rw [hg]; exact (below_size wB) : w.heap.size ≤ aa))
 have n5_ := Aside0.mk ((by rw [hg]; exact (below_size wB) : w.heap.size ≤ aa))
 have n6_ := Aside0.mk ((by rw [hg]; exact Nat.ne_of_lt (blk_lt (Bh ac)) : ak ≠ aa))
 have n7_ := Aside0.mk ((by rw [hg]; exact Nat.ne_of_gt (blk_lt (Bh ac)) : aa ≠ ak))
 have n8_ := Aside0.mk ((by rw [hg]; exact Nat.ne_of_lt (blk_lt (Bh ad)) : am ≠ aa))
 have n9_ := Aside0.mk ((by rw [hg]; exact Nat.ne_of_gt (blk_lt (Bh ad)) : aa ≠ am))
 clear ac
 clear ad
 clear HB
 have ac := n0_
 have ad := n1_
 have HB := n2_
 have ae := n3_
 have ay := n4_
 have aE := n5_
 have af := n6_
 have ah := n7_
 have ag := n8_
 have ai := n9_
 clear n0_ n1_ n2_ n3_ n4_ n5_ n6_ n7_ n8_ n9_
 clear hb hbox hg
 refine hK.out _ _ ⟨((HB.out.cell (World.block_lt_of_cell? w _ hw117_0)).trans hw117_0), ((HB.out.cell (World.block_lt_of_cell? w _ hw120_0)).trans hw120_0), ((HB.out.cell (World.block_lt_of_cell? w _ hw121_0)).trans hw121_0)⟩ (fun hHeld => ?_)
 clear hK K
 refine norm_ (a' := ?_) ?_ ?_
 rotate_left
 {
 show Act.put _ (some 8) _ = _
 simp only [Act.put, List.setIfInBounds_toArray, List.set_cons_zero, List.set_cons_succ, i64_w, i32_w]
 rfl
 }
 refine one_ (i := 31) (N := some 87) #[true, true, true, true, true, true, true, true, true, true, true, true, true, true, true, true, true, true, true, true, true, true, true, true, true, true, true, true, true, true, true, true, false, true, false] rfl rfl (one_of HT_.out (by kernel_rfl)) (by decide) (fun K hK => ?_)
 refine goes_ Try.func39 (by kernel_rfl) rfl #[.slice A3005 ((l0.take 20).drop 16).length (c0 - 16)] (by rfl) rfl rfl (by (try simp only [List.map_toArray, List.map_cons, List.map_nil]); first | done | (rw [show ((l0.take 20).drop 16).length = (20 - 16) from (by rw [List.length_drop, List.length_take]; have h_ : (20 : Int) ≤ (l0.length : Int) := dT; omega)] <;> rfl) | rfl | (simp only [List.length_drop, List.length_take]; rfl)) ?_
 with_reducible refine (impl_get.calls ao _ _ ((l0.take 20).drop 16) aq _ ?side1 ?side2 A2019.out).mono ?_
 (case side1 => exact Kd.C_below HR124.out wB)
 (case side2 => exact bg.out)
 rintro e w' ⟨rfl, ⟨nd, rfl⟩⟩
 refine ⟨_, rfl, ?_⟩
 refine hK.out _ _ ⟨((HB.out.cell (World.block_lt_of_cell? w _ hw117_0)).trans hw117_0), ((HB.out.cell (World.block_lt_of_cell? w _ hw120_0)).trans hw120_0), ((HB.out.cell (World.block_lt_of_cell? w _ hw121_0)).trans hw121_0)⟩ (fun hHeld => ?_)
 clear hK K
 refine norm_ (a' := ?_) ?_ ?_
 rotate_left
 {
 show Act.put _ (some 87) _ = _
 simp only [Act.put, List.setIfInBounds_toArray, List.set_cons_zero, List.set_cons_succ, i64_w, i32_w]
 rfl
 }
 refine pure_ (i := 32) (N := some 88) (v := ?_) (a' := ?_) #[true, true, true, true, true, true, true, true, true, true, true, true, true, true, true, true, true, true, true, true, true, true, true, true, true, true, true, true, true, true, true, true, true, true, false] rfl rfl (any_of HT_.out (by kernel_rfl)) (fun _ _ _ h => h) (Or.inl ⟨by rfl, ?_⟩) ?_ ?_
 rotate_left
 {
 intro w'
 go_simp
 with_reducible rfl
 }
 rotate_left
 {
 simp only [Act.put, List.setIfInBounds_toArray, List.set_cons_zero, List.set_cons_succ, i64_w, i32_w]
 rfl
 }
 exact norm_ (by simp only [putAll, Act.put, List.setIfInBounds_toArray, List.set_cons_zero, List.set_cons_succ]) (hCont (aa) _ ⟨hHeld, (Bh ac), (Bh ad), (Bh ae), ay.out, aE.out, af.out, ah.out, ag.out, ai.out, wB⟩)
 }
 }
 {
 skip
 refine box_step ?hg (N := 8) ?hd (cs := #[.int .i64 0, .int .i64 0, .bool false, .bool false, .int .i64 0, .int .i64 0, .int .i64 0, .int .i64 0, .int .i64 0, .slice none 0 0, .slice none 0 0]) (t := 25) ?hr ?_; (case hd => rfl); (case hg => rfl); (case hr => first | (go_simp; done) | (go_simp; rfl))
 intro aa hg b6 hbox hb
 have n0_ := Aside0.mk (blk_below (Bh ac) hb)
 have n1_ := Aside0.mk (blk_below (Bh ad) hb)
 have n2_ := Aside0.mk (below_step wB hb)
 have n3_ := Aside0.mk (hbox)
 have n4_ := Aside0.mk ((by rw [hg]; exact (below_size wB) : w.heap.size ≤ aa))
 have n5_ := Aside0.mk ((by rw [hg]; exact (below_size wB) : w.heap.size ≤ aa))
 have n6_ := Aside0.mk ((by rw [hg]; exact Nat.ne_of_lt (blk_lt (Bh ac)) : ak ≠ aa))
 have n7_ := Aside0.mk ((by rw [hg]; exact Nat.ne_of_gt (blk_lt (Bh ac)) : aa ≠ ak))
 have n8_ := Aside0.mk ((by rw [hg]; exact Nat.ne_of_lt (blk_lt (Bh ad)) : am ≠ aa))
 have n9_ := Aside0.mk ((by rw [hg]; exact Nat.ne_of_gt (blk_lt (Bh ad)) : aa ≠ am))
 clear ac
 clear ad
 clear HB
 have ac := n0_
 have ad := n1_
 have HB := n2_
 have ae := n3_
 have ay := n4_
 have aE := n5_
 have af := n6_
 have ah := n7_
 have ag := n8_
 have ai := n9_
 clear n0_ n1_ n2_ n3_ n4_ n5_ n6_ n7_ n8_ n9_
 clear hb hbox hg
 refine hK.out _ _ ⟨((HB.out.cell (World.block_lt_of_cell? w _ hw117_0)).trans hw117_0), ((HB.out.cell (World.block_lt_of_cell? w _ hw120_0)).trans hw120_0), ((HB.out.cell (World.block_lt_of_cell? w _ hw121_0)).trans hw121_0)⟩ (fun hHeld => ?_)
 clear hK K
 refine norm_ (a' := ?_) ?_ ?_
 rotate_left
 {
 show Act.put _ (some 8) _ = _
 simp only [Act.put, List.setIfInBounds_toArray, List.set_cons_zero, List.set_cons_succ, i64_w, i32_w]
 rfl
 }
 refine one_ (i := 28) (N := some 84) #[true, true, true, true, true, true, true, true, true, true, true, true, true, true, true, true, true, true, true, true, true, true, true, true, true, true, true, true, true, true, true, false, false, true, false] rfl rfl (one_of HT_.out (by kernel_rfl)) (by decide) (fun K hK => ?_)
 refine goes_ Try.func39 (by kernel_rfl) rfl #[.slice A3004 ((l0.take 16).drop 12).length (c0 - 12)] (by rfl) rfl rfl (by (try simp only [List.map_toArray, List.map_cons, List.map_nil]); first | done | (rw [show ((l0.take 16).drop 12).length = (16 - 12) from (by rw [List.length_drop, List.length_take]; have h_ : (16 : Int) ≤ (l0.length : Int) := dT; omega)] <;> rfl) | rfl | (simp only [List.length_drop, List.length_take]; rfl)) ?_
 with_reducible refine (impl_get.calls ao _ _ ((l0.take 16).drop 12) av _ ?side1 ?side2 A2016.out).mono ?_
 (case side1 => exact Kd.C_below HR122.out wB)
 (case side2 => exact b5.out)
 rintro e w' ⟨rfl, ⟨nd, rfl⟩⟩
 refine ⟨_, rfl, ?_⟩
 refine hK.out _ _ ⟨((HB.out.cell (World.block_lt_of_cell? w _ hw117_0)).trans hw117_0), ((HB.out.cell (World.block_lt_of_cell? w _ hw120_0)).trans hw120_0), ((HB.out.cell (World.block_lt_of_cell? w _ hw121_0)).trans hw121_0)⟩ (fun hHeld => ?_)
 clear hK K
 refine norm_ (a' := ?_) ?_ ?_
 rotate_left
 {
 show Act.put _ (some 84) _ = _
 simp only [Act.put, List.setIfInBounds_toArray, List.set_cons_zero, List.set_cons_succ, i64_w, i32_w]
 rfl
 }
 refine one_ (i := 31) (N := some 87) #[true, true, true, true, true, true, true, true, true, true, true, true, true, true, true, true, true, true, true, true, true, true, true, true, true, true, true, true, true, true, true, true, false, true, false] rfl rfl (one_of HT_.out (by kernel_rfl)) (by decide) (fun K hK => ?_)
 refine goes_ Try.func39 (by kernel_rfl) rfl #[.slice A3005 ((l0.take 20).drop 16).length (c0 - 16)] (by rfl) rfl rfl (by (try simp only [List.map_toArray, List.map_cons, List.map_nil]); first | done | (rw [show ((l0.take 20).drop 16).length = (20 - 16) from (by rw [List.length_drop, List.length_take]; have h_ : (20 : Int) ≤ (l0.length : Int) := dT; omega)] <;> rfl) | rfl | (simp only [List.length_drop, List.length_take]; rfl)) ?_
 with_reducible refine (impl_get.calls ao _ _ ((l0.take 20).drop 16) aq _ ?side1 ?side2 A2019.out).mono ?_
 (case side1 => repeat (first | exact (Kd.C_below HR124.out wB) | (with_reducible refine Kd.C_alloc ?_ _) | (with_reducible refine Kd.C_drewN ?_ _) | (with_reducible refine Kd.C_drew ?_)))
 (case side2 => exact bg.out)
 rintro e w' ⟨rfl, ⟨nd, rfl⟩⟩
 refine ⟨_, rfl, ?_⟩
 refine hK.out _ _ ⟨((HB.out.cell (World.block_lt_of_cell? w _ hw117_0)).trans hw117_0), ((HB.out.cell (World.block_lt_of_cell? w _ hw120_0)).trans hw120_0), ((HB.out.cell (World.block_lt_of_cell? w _ hw121_0)).trans hw121_0)⟩ (fun hHeld => ?_)
 clear hK K
 refine norm_ (a' := ?_) ?_ ?_
 rotate_left
 {
 show Act.put _ (some 87) _ = _
 simp only [Act.put, List.setIfInBounds_toArray, List.set_cons_zero, List.set_cons_succ, i64_w, i32_w]
 rfl
 }
 refine pure_ (i := 32) (N := some 88) (v := ?_) (a' := ?_) #[true, true, true, true, true, true, true, true, true, true, true, true, true, true, true, true, true, true, true, true, true, true, true, true, true, true, true, true, true, true, true, true, true, true, false] rfl rfl (any_of HT_.out (by kernel_rfl)) (fun _ _ _ h => h) (Or.inl ⟨by rfl, ?_⟩) ?_ ?_
 rotate_left
 {
 intro w'
 go_simp
 with_reducible rfl
 }
 rotate_left
 {
 simp only [Act.put, List.setIfInBounds_toArray, List.set_cons_zero, List.set_cons_succ, i64_w, i32_w]
 rfl
 }
 exact norm_ (by simp only [putAll, Act.put, List.setIfInBounds_toArray, List.set_cons_zero, List.set_cons_succ]) (hCont (aa) _ ⟨hHeld, (Bh ac), (Bh ad), (Bh ae), ay.out, aE.out, af.out, ah.out, ag.out, ai.out, wB⟩)
 }
 }
 {
 skip
 refine box_step ?hg (N := 8) ?hd (cs := #[.int .i64 0, .int .i64 0, .bool false, .bool false, .int .i64 0, .int .i64 0, .int .i64 0, .int .i64 0, .int .i64 0, .slice none 0 0, .slice none 0 0]) (t := 25) ?hr ?_; (case hd => rfl); (case hg => rfl); (case hr => first | (go_simp; done) | (go_simp; rfl))
 intro aa hg b6 hbox hb
 have n0_ := Aside0.mk (blk_below (Bh ac) hb)
 have n1_ := Aside0.mk (blk_below (Bh ad) hb)
 have n2_ := Aside0.mk (below_step wB hb)
 have n3_ := Aside0.mk (hbox)
 have n4_ := Aside0.mk ((by rw [hg]; exact (below_size wB) : w.heap.size ≤ aa))
 have n5_ := Aside0.mk ((by rw [hg]; exact (below_size wB) : w.heap.size ≤ aa))
 have n6_ := Aside0.mk ((by rw [hg]; exact Nat.ne_of_lt (blk_lt (Bh ac)) : ak ≠ aa))
 have n7_ := Aside0.mk ((by rw [hg]; exact Nat.ne_of_gt (blk_lt (Bh ac)) : aa ≠ ak))
 have n8_ := Aside0.mk ((by rw [hg]; exact Nat.ne_of_lt (blk_lt (Bh ad)) : am ≠ aa))
 have n9_ := Aside0.mk ((by rw [hg]; exact Nat.ne_of_gt (blk_lt (Bh ad)) : aa ≠ am))
 clear ac
 clear ad
 clear HB
 have ac := n0_
 have ad := n1_
 have HB := n2_
 have ae := n3_
 have ay := n4_
 have aE := n5_
 have af := n6_
 have ah := n7_
 have ag := n8_
 have ai := n9_
 clear n0_ n1_ n2_ n3_ n4_ n5_ n6_ n7_ n8_ n9_
 clear hb hbox hg
 refine hK.out _ _ ⟨((HB.out.cell (World.block_lt_of_cell? w _ hw117_0)).trans hw117_0), ((HB.out.cell (World.block_lt_of_cell? w _ hw120_0)).trans hw120_0), ((HB.out.cell (World.block_lt_of_cell? w _ hw121_0)).trans hw121_0)⟩ (fun hHeld => ?_)
 clear hK K
 refine norm_ (a' := ?_) ?_ ?_
 rotate_left
 {
 show Act.put _ (some 8) _ = _
 simp only [Act.put, List.setIfInBounds_toArray, List.set_cons_zero, List.set_cons_succ, i64_w, i32_w]
 rfl
 }
 refine one_ (i := 6) (N := some 62) #[true, true, true, true, true, true, true, true, true, true, true, true, true, true, true, true, true, true, true, true, true, true, true, true, true, true, true, true, false, true, true, false, false, true, false] rfl rfl (one_of HT_.out (by kernel_rfl)) (by decide) (fun K hK => ?_)
 refine goes_ Try.func39 (by kernel_rfl) rfl #[.slice A3003 ((l0.take 6).drop 4).length (c0 - 4)] (by rfl) rfl rfl (by (try simp only [List.map_toArray, List.map_cons, List.map_nil]); first | done | (rw [show ((l0.take 6).drop 4).length = (6 - 4) from (by rw [List.length_drop, List.length_take]; have h_ : (6 : Int) ≤ (l0.length : Int) := dT; omega)] <;> rfl) | rfl | (simp only [List.length_drop, List.length_take]; rfl)) ?_
 with_reducible refine (impl_get.calls ao _ _ ((l0.take 6).drop 4) aw _ ?side1 ?side2 A2011.out).mono ?_
 (case side1 => exact Kd.C_below HR118.out wB)
 (case side2 => exact b7.out)
 rintro e w' ⟨rfl, ⟨nd, rfl⟩⟩
 refine ⟨_, rfl, ?_⟩
 refine hK.out _ _ ⟨((HB.out.cell (World.block_lt_of_cell? w _ hw117_0)).trans hw117_0), ((HB.out.cell (World.block_lt_of_cell? w _ hw120_0)).trans hw120_0), ((HB.out.cell (World.block_lt_of_cell? w _ hw121_0)).trans hw121_0)⟩ (fun hHeld => ?_)
 clear hK K
 refine norm_ (a' := ?_) ?_ ?_
 rotate_left
 {
 show Act.put _ (some 62) _ = _
 simp only [Act.put, List.setIfInBounds_toArray, List.set_cons_zero, List.set_cons_succ, i64_w, i32_w]
 rfl
 }
 refine one_ (i := 28) (N := some 84) #[true, true, true, true, true, true, true, true, true, true, true, true, true, true, true, true, true, true, true, true, true, true, true, true, true, true, true, true, true, true, true, false, false, true, false] rfl rfl (one_of HT_.out (by kernel_rfl)) (by decide) (fun K hK => ?_)
 refine goes_ Try.func39 (by kernel_rfl) rfl #[.slice A3004 ((l0.take 16).drop 12).length (c0 - 12)] (by rfl) rfl rfl (by (try simp only [List.map_toArray, List.map_cons, List.map_nil]); first | done | (rw [show ((l0.take 16).drop 12).length = (16 - 12) from (by rw [List.length_drop, List.length_take]; have h_ : (16 : Int) ≤ (l0.length : Int) := dT; omega)] <;> rfl) | rfl | (simp only [List.length_drop, List.length_take]; rfl)) ?_
 with_reducible refine (impl_get.calls ao _ _ ((l0.take 16).drop 12) av _ ?side1 ?side2 A2016.out).mono ?_
 (case side1 => repeat (first | exact (Kd.C_below HR122.out wB) | (with_reducible refine Kd.C_alloc ?_ _) | (with_reducible refine Kd.C_drewN ?_ _) | (with_reducible refine Kd.C_drew ?_)))
 (case side2 => exact b5.out)
 rintro e w' ⟨rfl, ⟨nd, rfl⟩⟩
 refine ⟨_, rfl, ?_⟩
 refine hK.out _ _ ⟨((HB.out.cell (World.block_lt_of_cell? w _ hw117_0)).trans hw117_0), ((HB.out.cell (World.block_lt_of_cell? w _ hw120_0)).trans hw120_0), ((HB.out.cell (World.block_lt_of_cell? w _ hw121_0)).trans hw121_0)⟩ (fun hHeld => ?_)
 clear hK K
 refine norm_ (a' := ?_) ?_ ?_
 rotate_left
 {
 show Act.put _ (some 84) _ = _
 simp only [Act.put, List.setIfInBounds_toArray, List.set_cons_zero, List.set_cons_succ, i64_w, i32_w]
 rfl
 }
 refine one_ (i := 31) (N := some 87) #[true, true, true, true, true, true, true, true, true, true, true, true, true, true, true, true, true, true, true, true, true, true, true, true, true, true, true, true, true, true, true, true, false, true, false] rfl rfl (one_of HT_.out (by kernel_rfl)) (by decide) (fun K hK => ?_)
 refine goes_ Try.func39 (by kernel_rfl) rfl #[.slice A3005 ((l0.take 20).drop 16).length (c0 - 16)] (by rfl) rfl rfl (by (try simp only [List.map_toArray, List.map_cons, List.map_nil]); first | done | (rw [show ((l0.take 20).drop 16).length = (20 - 16) from (by rw [List.length_drop, List.length_take]; have h_ : (20 : Int) ≤ (l0.length : Int) := dT; omega)] <;> rfl) | rfl | (simp only [List.length_drop, List.length_take]; rfl)) ?_
 with_reducible refine (impl_get.calls ao _ _ ((l0.take 20).drop 16) aq _ ?side1 ?side2 A2019.out).mono ?_
 (case side1 => repeat (first | exact (Kd.C_below HR124.out wB) | (with_reducible refine Kd.C_alloc ?_ _) | (with_reducible refine Kd.C_drewN ?_ _) | (with_reducible refine Kd.C_drew ?_)))
 (case side2 => exact bg.out)
 rintro e w' ⟨rfl, ⟨nd, rfl⟩⟩
 refine ⟨_, rfl, ?_⟩
 refine hK.out _ _ ⟨((HB.out.cell (World.block_lt_of_cell? w _ hw117_0)).trans hw117_0), ((HB.out.cell (World.block_lt_of_cell? w _ hw120_0)).trans hw120_0), ((HB.out.cell (World.block_lt_of_cell? w _ hw121_0)).trans hw121_0)⟩ (fun hHeld => ?_)
 clear hK K
 refine norm_ (a' := ?_) ?_ ?_
 rotate_left
 {
 show Act.put _ (some 87) _ = _
 simp only [Act.put, List.setIfInBounds_toArray, List.set_cons_zero, List.set_cons_succ, i64_w, i32_w]
 rfl
 }
 refine pure_ (i := 32) (N := some 88) (v := ?_) (a' := ?_) #[true, true, true, true, true, true, true, true, true, true, true, true, true, true, true, true, true, true, true, true, true, true, true, true, true, true, true, true, true, true, true, true, true, true, false] rfl rfl (any_of HT_.out (by kernel_rfl)) (fun _ _ _ h => h) (Or.inl ⟨by rfl, ?_⟩) ?_ ?_
 rotate_left
 {
 intro w'
 go_simp
 with_reducible rfl
 }
 rotate_left
 {
 simp only [Act.put, List.setIfInBounds_toArray, List.set_cons_zero, List.set_cons_succ, i64_w, i32_w]
 rfl
 }
 exact norm_ (by simp only [putAll, Act.put, List.setIfInBounds_toArray, List.set_cons_zero, List.set_cons_succ]) (hCont (aa) _ ⟨hHeld, (Bh ac), (Bh ad), (Bh ae), ay.out, aE.out, af.out, ah.out, ag.out, ai.out, wB⟩)
 }
 }
 rintro aa an ⟨hS_, h0_, h1_, h2_, h3_, h4_, h5_, h6_, h7_, h8_, h9_⟩
 have n0_ : Aside0 (an.heap[ak]? = some (.cells #[.int .i64 0, .int .i64 0, .bool false, .bool false, .int .i64 0, .int .i64 0, .int .i64 0, .int .i64 0, .int .i64 0, .slice none 0 0, .slice none 0 0] 25 (0, 0))) := ⟨h0_⟩
 have n1_ : Aside0 (an.heap[am]? = some (.cells #[.int .i64 0, .int .i64 0, .bool false, .bool false, .int .i64 0, .int .i64 0, .int .i64 0, .int .i64 0, .int .i64 0, .slice none 0 0, .slice none 0 0] 25 (0, 0))) := ⟨h1_⟩
 have n2_ : Aside0 (an.heap[aa]? = some (.cells #[.int .i64 0, .int .i64 0, .bool false, .bool false, .int .i64 0, .int .i64 0, .int .i64 0, .int .i64 0, .int .i64 0, .slice none 0 0, .slice none 0 0] 25 (0, 0))) := ⟨h2_⟩
 have n3_ : Aside0 (w.heap.size ≤ aa) := ⟨h3_⟩
 have n4_ : Aside0 (w.heap.size ≤ aa) := ⟨h4_⟩
 have n5_ : Aside0 (ak ≠ aa) := ⟨h5_⟩
 have n6_ : Aside0 (aa ≠ ak) := ⟨h6_⟩
 have n7_ : Aside0 (am ≠ aa) := ⟨h7_⟩
 have n8_ : Aside0 (aa ≠ am) := ⟨h8_⟩
 have n9_ : Aside0 (Below w.heap.size w an) := ⟨h9_⟩
 clear ac
 clear ad
 clear HB
 clear h0_ h1_ h2_ h3_ h4_ h5_ h6_ h7_ h8_ h9_
 have ac := n0_
 have ad := n1_
 have ae := n2_
 have ay := n3_
 have aE := n4_
 have af := n5_
 have ah := n6_
 have ag := n7_
 have ai := n8_
 have HB := n9_
 clear n0_ n1_ n2_ n3_ n4_ n5_ n6_ n7_ n8_ n9_
 have hHeld : an.cell? ⟨ad109.block, ad109.off + 1, none⟩ = some (.int .u8 (rd l0 1)) ∧ an.cell? ⟨ad109.block, ad109.off + 8, none⟩ = some (.int .u8 (rd l0 8)) ∧ an.cell? ⟨ad109.block, ad109.off + 9, none⟩ = some (.int .u8 (rd l0 9)) := hS_
 refine norm_ (a' := ?_) ?_ ?_
 rotate_left
 {
 simp only [putAll, Act.put, List.setIfInBounds_toArray, List.set_cons_zero, List.set_cons_succ]
 rfl
 }
 refine one_ (i := 34) (N := none) #[true, true, true, true, true, true, true, true, true, true, true, true, true, true, true, true, true, true, true, true, true, true, true, true, true, true, true, true, true, true, true, true, true, true, true] rfl rfl (one_of HT_.out (by kernel_rfl)) (by decide) (fun K hK => ?_)
 have hs3008 : an.cell? ⟨aa, 0, none⟩ = some (.int .i64 0) := (blk_cell ae.out 0).trans rfl
 have hfs3008 := blk_frozen ae.out 0
 have hns3008_0 := af.out
 have hns3008_1 := ag.out
 have hms3008_0 := ah.out
 have hms3008_1 := ai.out
 have hs3009 : an.cell? ⟨aa, 1, none⟩ = some (.int .i64 0) := (blk_cell ae.out 1).trans rfl
 have hfs3009 := blk_frozen ae.out 1
 have hns3009_0 := af.out
 have hns3009_1 := ag.out
 have hms3009_0 := ah.out
 have hms3009_1 := ai.out
 have hs3010 : an.cell? ⟨aa, 2, none⟩ = some (.bool false) := (blk_cell ae.out 2).trans rfl
 have hfs3010 := blk_frozen ae.out 2
 have hns3010_0 := af.out
 have hns3010_1 := ag.out
 have hms3010_0 := ah.out
 have hms3010_1 := ai.out
 have hs3011 : an.cell? ⟨aa, 3, none⟩ = some (.bool false) := (blk_cell ae.out 3).trans rfl
 have hfs3011 := blk_frozen ae.out 3
 have hns3011_0 := af.out
 have hns3011_1 := ag.out
 have hms3011_0 := ah.out
 have hms3011_1 := ai.out
 have hs3012 : an.cell? ⟨aa, 4, none⟩ = some (.int .i64 0) := (blk_cell ae.out 4).trans rfl
 have hfs3012 := blk_frozen ae.out 4
 have hns3012_0 := af.out
 have hns3012_1 := ag.out
 have hms3012_0 := ah.out
 have hms3012_1 := ai.out
 have hs3013 : an.cell? ⟨aa, 5, none⟩ = some (.int .i64 0) := (blk_cell ae.out 5).trans rfl
 have hfs3013 := blk_frozen ae.out 5
 have hns3013_0 := af.out
 have hns3013_1 := ag.out
 have hms3013_0 := ah.out
 have hms3013_1 := ai.out
 have hs3014 : an.cell? ⟨aa, 6, none⟩ = some (.int .i64 0) := (blk_cell ae.out 6).trans rfl
 have hfs3014 := blk_frozen ae.out 6
 have hns3014_0 := af.out
 have hns3014_1 := ag.out
 have hms3014_0 := ah.out
 have hms3014_1 := ai.out
 have hs3015 : an.cell? ⟨aa, 7, none⟩ = some (.int .i64 0) := (blk_cell ae.out 7).trans rfl
 have hfs3015 := blk_frozen ae.out 7
 have hns3015_0 := af.out
 have hns3015_1 := ag.out
 have hms3015_0 := ah.out
 have hms3015_1 := ai.out
 have hs3016 : an.cell? ⟨aa, 8, none⟩ = some (.int .i64 0) := (blk_cell ae.out 8).trans rfl
 have hfs3016 := blk_frozen ae.out 8
 have hns3016_0 := af.out
 have hns3016_1 := ag.out
 have hms3016_0 := ah.out
 have hms3016_1 := ai.out
 have hs3017 : an.cell? ⟨aa, 9, none⟩ = some (.slice none 0 0) := (blk_cell ae.out 9).trans rfl
 have hfs3017 := blk_frozen ae.out 9
 have hns3017_0 := af.out
 have hns3017_1 := ag.out
 have hms3017_0 := ah.out
 have hms3017_1 := ai.out
 have hs3018 : an.cell? ⟨aa, 10, none⟩ = some (.slice none 0 0) := (blk_cell ae.out 10).trans rfl
 have hfs3018 := blk_frozen ae.out 10
 have hns3018_0 := af.out
 have hns3018_1 := ag.out
 have hms3018_0 := ah.out
 have hms3018_1 := ai.out
 refine skip_ (w1 := ?_) (by rfl) rfl ?_ ?_
 rotate_left
 {
 go_simp
 rfl
 }
 refine hK.out _ _ ⟨((cF11 (nB (lB hw117_0 ay))).trans (hHeld.1)), ((cF11 (nB (lB hw120_0 ay))).trans (hHeld.2.1)), ((cF11 (nB (lB hw121_0 ay))).trans (hHeld.2.2))⟩ (fun hHeld => ?_)
 clear hK K
 refine done_ (done_of HT_.out (by kernel_rfl)) ?_
 obtain ⟨i03019, hi03019, _, hsz3019, _⟩ := info_parts info5
 obtain ⟨A3019, hcut3019, hA3019, hC3019⟩ := print_mid_of (P := Try.prog) (Value.int .u8) 0 22 5 .i64 .i64 Try.underlying22 hi03019 hsz3019 (some ad109) c0 l0 20 (ab) (by omega) (by first | omega | exact dT) dT a8.out
 have HR127 := Aside0.mk (Kd.C_of_reads (h1 := fun _ => rfl) (hA3019 _ (Kd.reads_of_C HR0.out)))
 have ci := Aside0.mk hC3019
 clear hA3019 hC3019 hi03019 hsz3019
 try go_wp2_with (first | ((with_reducible refine gate_callee (f := 40) rfl ?_); refine gL (hargs := (by (try simp only [List.map_toArray, List.map_cons, List.map_nil]); first | done | (rw [show ((l0.take ((ab) : Int).toNat).drop 20).length = ((ab).toNat - 20) from (by rw [List.length_drop, List.length_take]; have h_ : ((ab) : Int) ≤ (l0.length : Int) := dT; omega)] <;> rfl) | (simp only [hji1005]; rfl) | rfl | (simp only [List.length_drop, List.length_take]; rfl))) (some 92) Try.func40 #[.slice A3019 ((l0.take ((ab) : Int).toNat).drop 20).length (c0 - 20)] ?_; (with_reducible refine (impl_dup.calls _ _ ((l0.take ((ab) : Int).toNat).drop 20) ax _ ?side1 ?side2 A2022.out).mono ?_); (case side1 => exact Kd.C_below HR127.out wB); (case side2 => exact ci.out); rintro e d8 ⟨d9, rfl, bn, hb⟩; refine ⟨_, rfl, ?_⟩; have aB := Aside0.mk (Kd.R_lower bn (below_size wB)); replace ac := Aside0.mk (blk_below (g := ak) (o := .cells #[.int .i64 0, .int .i64 0, .bool false, .bool false, .int .i64 0, .int .i64 0, .int .i64 0, .int .i64 0, .int .i64 0, .slice none 0 0, .slice none 0 0] 25 (0, 0)) (by (with_reducible repeat (first | refine blk_drewN ?_ _ | refine blk_drew ?_ | refine blk_alloc ?_ _)); refine (far11 af.out).trans ?_; (with_reducible repeat (first | refine blk_drewN ?_ _ | refine blk_drew ?_ | refine blk_alloc ?_ _)); exact ac.out) hb); replace ad := Aside0.mk (blk_below (g := am) (o := .cells #[.int .i64 0, .int .i64 0, .bool false, .bool false, .int .i64 0, .int .i64 0, .int .i64 0, .int .i64 0, .int .i64 0, .slice none 0 0, .slice none 0 0] 25 (0, 0)) (by (with_reducible repeat (first | refine blk_drewN ?_ _ | refine blk_drew ?_ | refine blk_alloc ?_ _)); refine (far11 ag.out).trans ?_; (with_reducible repeat (first | refine blk_drewN ?_ _ | refine blk_drew ?_ | refine blk_alloc ?_ _)); exact ad.out) hb); replace ae := Aside0.mk (blk_below (g := aa) (o := .cells #[.int .i64 (wrap64 (rd l0 1)), .int .i64 aw, .bool ((Go.bits .and .i64 (aj / 16384) 1) == 1), .bool ((Go.bits .and .i64 (aj / 8192) 1) == 1), .int .i64 (wrap64 ((Go.bits .and .i64 aj 8191) * 8)), .int .i64 (wrap64 (rd l0 8)), .int .i64 (wrap64 (rd l0 9)), .int .i64 av, .int .i64 aq, .slice none 0 0, .slice none 0 0] 25 (0, 0)) (by (with_reducible repeat (first | refine blk_drewN ?_ _ | refine blk_drew ?_ | refine blk_alloc ?_ _)); apply set11; (with_reducible repeat (first | refine blk_drewN ?_ _ | refine blk_drew ?_ | refine blk_alloc ?_ _)); exact ae.out) hb); replace HB := Aside0.mk (below_step wB hb); clear hb; (try clear bn); obtain ⟨ar, au, b9⟩ := Kd.R_slice aB.out; subst b9; have dV := ah.out; have dW := af.out; have dX := ai.out; have dY := ag.out; obtain ⟨⟨cL, cM, cN, cO, cP, cQ, cR, cS, cT, cU, cj⟩, cV, cW, cX, cY, cZ, c1, da, db, dc, dd, ck⟩ := cells11 ae.out; obtain ⟨i03025, hi03025, _, hsz3025, _⟩ := info_parts info5; obtain ⟨A3025, hcut3025, hA3025, hC3025⟩ := print_mid_of (P := Try.prog) (Value.int .u8) 0 22 5 .i64 .i64 Try.underlying22 hi03025 hsz3025 (some ad109) c0 l0 (ab) al dT (by first | omega | exact dT) dT a8.out; have HR131 := Aside0.mk (Kd.C_of_reads (h1 := fun _ => rfl) (hA3025 _ (Kd.reads_of_C HR0.out))); have cl := Aside0.mk hC3025; clear hA3025 hC3025 hi03025 hsz3025) | ((with_reducible refine gate_callee (f := 40) rfl ?_); refine gL (hargs := (by (try simp only [List.map_toArray, List.map_cons, List.map_nil]); first | done | (rw [show ((l0.take (al : Int).toNat).drop ((ab) : Int).toNat).length = (al.toNat - (ab).toNat) from (by rw [List.length_drop, List.length_take]; have h_ : (al : Int) ≤ (l0.length : Int) := dT; omega)] <;> rfl) | (simp only [hji1005]; rfl) | rfl | (simp only [List.length_drop, List.length_take]; rfl))) (some 98) Try.func40 #[.slice A3025 ((l0.take (al : Int).toNat).drop ((ab) : Int).toNat).length (c0 - (ab).toNat)] ?_; (with_reducible refine (impl_dup.calls _ _ ((l0.take (al : Int).toNat).drop ((ab) : Int).toNat) ap _ ?side1 ?side2 A2026.out).mono ?_); (case side1 => exact Kd.C_below HR131.out wB); (case side2 => exact cl.out); rintro e bh ⟨ea, rfl, bn, hb⟩; refine ⟨_, rfl, ?_⟩; have aJ := Aside0.mk (Kd.R_lower (Kd.R_new' bn (Kd.R_lt (by (with_reducible repeat (first | apply Kd.R_alloc | apply Kd.R_drewN | apply Kd.R_drew)); exact (Kd.R_mono (Kd.R_far (p := ⟨aa, 9, none⟩) (Kd.R_types aB.out ae.out (by decide)) (fun _ hk => hk.2) (.slice ar ax.length au)) (fun _ h_ => h_.1))))) (below_size wB)); replace aB := Aside0.mk (Kd.R_elder' (by (with_reducible repeat (first | apply Kd.R_alloc | apply Kd.R_drewN | apply Kd.R_drew)); exact (Kd.R_mono (Kd.R_far (p := ⟨aa, 9, none⟩) (Kd.R_types aB.out ae.out (by decide)) (fun _ hk => hk.2) (.slice ar ax.length au)) (fun _ h_ => h_.1))) (Kd.R_base bn) hb); replace ac := Aside0.mk (blk_below (g := ak) (o := .cells #[.int .i64 0, .int .i64 0, .bool false, .bool false, .int .i64 0, .int .i64 0, .int .i64 0, .int .i64 0, .int .i64 0, .slice none 0 0, .slice none 0 0] 25 (0, 0)) (by (with_reducible repeat (first | refine blk_drewN ?_ _ | refine blk_drew ?_ | refine blk_alloc ?_ _)); refine blk_far ?_ af.out _; (with_reducible repeat (first | refine blk_drewN ?_ _ | refine blk_drew ?_ | refine blk_alloc ?_ _)); exact ac.out) hb); replace ad := Aside0.mk (blk_below (g := am) (o := .cells #[.int .i64 0, .int .i64 0, .bool false, .bool false, .int .i64 0, .int .i64 0, .int .i64 0, .int .i64 0, .int .i64 0, .slice none 0 0, .slice none 0 0] 25 (0, 0)) (by (with_reducible repeat (first | refine blk_drewN ?_ _ | refine blk_drew ?_ | refine blk_alloc ?_ _)); refine blk_far ?_ ag.out _; (with_reducible repeat (first | refine blk_drewN ?_ _ | refine blk_drew ?_ | refine blk_alloc ?_ _)); exact ad.out) hb); replace ae := Aside0.mk (blk_below (g := aa) (o := .cells #[.int .i64 (wrap64 (rd l0 1)), .int .i64 aw, .bool ((Go.bits .and .i64 (aj / 16384) 1) == 1), .bool ((Go.bits .and .i64 (aj / 8192) 1) == 1), .int .i64 (wrap64 ((Go.bits .and .i64 aj 8191) * 8)), .int .i64 (wrap64 (rd l0 8)), .int .i64 (wrap64 (rd l0 9)), .int .i64 av, .int .i64 aq, .slice ar ax.length au, .slice none 0 0] 25 (0, 0)) (by (with_reducible repeat (first | refine blk_drewN ?_ _ | refine blk_drew ?_ | refine blk_alloc ?_ _)); refine blk_put (cs := #[.int .i64 (wrap64 (rd l0 1)), .int .i64 aw, .bool ((Go.bits .and .i64 (aj / 16384) 1) == 1), .bool ((Go.bits .and .i64 (aj / 8192) 1) == 1), .int .i64 (wrap64 ((Go.bits .and .i64 aj 8191) * 8)), .int .i64 (wrap64 (rd l0 8)), .int .i64 (wrap64 (rd l0 9)), .int .i64 av, .int .i64 aq, .slice none 0 0, .slice none 0 0]) ?_ 9 _ rfl; (with_reducible repeat (first | refine blk_drewN ?_ _ | refine blk_drew ?_ | refine blk_alloc ?_ _)); exact ae.out) hb); replace HB := Aside0.mk (below_step wB hb); clear hb; (try clear bn); obtain ⟨az, aA, ca⟩ := Kd.R_slice aJ.out; subst ca; obtain ⟨⟨de, df, dg, dh, di, dj, dk, dl, dm, dn, cm⟩, dp, dq, dr, dt, du, dv, dw, dx, dy, dz, cn⟩ := cells11 ae.out; have dZ := a9.out; have d0 := ba.out; obtain ⟨⟨dA, dB, dC, dD, dE, dF, dG, dH, dI, dJ, co⟩, dK, dL, dM, dN, dO, dP, dQ, dR, dS, dU, cp⟩ := cells11 ac.out) | ((with_reducible refine gate_store (t := 25) (p := 2) rfl ?_); (try (rw [drewN_self bh]; generalize hq_ : World.drewN bh _ = bh; replace aB := Aside0.mk (Kd.R_at hq_ aB.out); replace aJ := Aside0.mk (Kd.R_at hq_ aJ.out); replace ac := Aside0.mk (blk_at hq_ ac.out); replace ad := Aside0.mk (blk_at hq_ ad.out); replace ae := Aside0.mk (blk_at hq_ ae.out); replace HB := Aside0.mk (below_at hq_ HB.out); clear hq_; (try (obtain ⟨⟨bo, bp, bq, br, bs, bu, bv, bw, bz, bA, bj⟩, bB, bC, bD, bE, bF, bG, bH, bI, bJ, bK, bk⟩ := cells11 ac.out)); (try (obtain ⟨⟨bL, bM, bN, bO, bP, bQ, bR, bS, bT, bU, bl⟩, bV, bW, bX, bY, bZ, b0, b1, b2, b3, b4, bm⟩ := cells11 ad.out)); (try (obtain ⟨⟨cq, cr, ct, cu, cv, cw, cx, cy, cz, cA, cb⟩, cB, cC, cD, cE, cF, cG, cH, cI, cJ, cK, cc⟩ := cells11 ae.out)))); refine storeE (put11 (bh.setCell ⟨aa, 10, none⟩ (.slice az ap.length aA)) ak (.int .i64 (wrap64 (rd l0 1))) (.int .i64 aw) (.bool ((Go.bits .and .i64 (aj / 16384) 1) == 1)) (.bool ((Go.bits .and .i64 (aj / 8192) 1) == 1)) (.int .i64 (wrap64 ((Go.bits .and .i64 aj 8191) * 8))) (.int .i64 (wrap64 (rd l0 8))) (.int .i64 (wrap64 (rd l0 9))) (.int .i64 av) (.int .i64 aq) (.slice ar ax.length au) (.slice az ap.length aA)) ?_; intro aQ hw; have n0_ : Aside0 (Kd.R (Kd.int .u8) 5 aQ w.heap.size (fun k_ => some k_ ≠ (.slice az ap.length aA : Value).ownBlock) (.slice ar ax.length au) ax) := ⟨(by rw [hw]; exact (by exact Kd.R_mono (Kd.R_step (Kd.R_far (p := ⟨aa, 10, none⟩) (Kd.R_types (Kd.R_types aB.out ae.out (by decide)) ac.out (by decide)) (fun _ hk => hk.1.2) (.slice az ap.length aA)) (fun _ hk _ => far11 hk.2)) (fun _ hk => hk.1.1.2)))⟩; have n1_ : Aside0 (Kd.R (Kd.int .u8) 5 aQ w.heap.size (fun k_ => some k_ ≠ (.slice ar ax.length au : Value).ownBlock) (.slice az ap.length aA) ap) := ⟨(by rw [hw]; exact (by exact Kd.R_mono (Kd.R_step (Kd.R_far (p := ⟨aa, 10, none⟩) (Kd.R_types (Kd.R_types aJ.out ae.out (by decide)) ac.out (by decide)) (fun _ hk => hk.1.2) (.slice az ap.length aA)) (fun _ hk _ => far11 hk.2)) (fun _ hk => hk.1.1.2)))⟩; have n2_ : Aside0 (aQ.heap[ak]? = some (.cells #[.int .i64 (wrap64 (rd l0 1)), .int .i64 aw, .bool ((Go.bits .and .i64 (aj / 16384) 1) == 1), .bool ((Go.bits .and .i64 (aj / 8192) 1) == 1), .int .i64 (wrap64 ((Go.bits .and .i64 aj 8191) * 8)), .int .i64 (wrap64 (rd l0 8)), .int .i64 (wrap64 (rd l0 9)), .int .i64 av, .int .i64 aq, .slice ar ax.length au, .slice az ap.length aA] 25 (0, 0))) := ⟨(by rw [hw]; exact (by apply set11; refine blk_far ?_ af.out _; exact ac.out))⟩; have n3_ : Aside0 (aQ.heap[am]? = some (.cells #[.int .i64 0, .int .i64 0, .bool false, .bool false, .int .i64 0, .int .i64 0, .int .i64 0, .int .i64 0, .int .i64 0, .slice none 0 0, .slice none 0 0] 25 (0, 0))) := ⟨(by rw [hw]; exact (by refine (far11 ba.out).trans ?_; refine blk_far ?_ ag.out _; exact ad.out))⟩; have n4_ : Aside0 (aQ.heap[aa]? = some (.cells #[.int .i64 (wrap64 (rd l0 1)), .int .i64 aw, .bool ((Go.bits .and .i64 (aj / 16384) 1) == 1), .bool ((Go.bits .and .i64 (aj / 8192) 1) == 1), .int .i64 (wrap64 ((Go.bits .and .i64 aj 8191) * 8)), .int .i64 (wrap64 (rd l0 8)), .int .i64 (wrap64 (rd l0 9)), .int .i64 av, .int .i64 aq, .slice ar ax.length au, .slice az ap.length aA] 25 (0, 0))) := ⟨(by rw [hw]; exact (by refine (far11 ah.out).trans ?_; refine blk_put (cs := #[.int .i64 (wrap64 (rd l0 1)), .int .i64 aw, .bool ((Go.bits .and .i64 (aj / 16384) 1) == 1), .bool ((Go.bits .and .i64 (aj / 8192) 1) == 1), .int .i64 (wrap64 ((Go.bits .and .i64 aj 8191) * 8)), .int .i64 (wrap64 (rd l0 8)), .int .i64 (wrap64 (rd l0 9)), .int .i64 av, .int .i64 aq, .slice ar ax.length au, .slice none 0 0]) ?_ 10 _ rfl; exact ae.out))⟩; have n5_ : Aside0 (Below w.heap.size w aQ) := ⟨(by rw [hw]; exact wB)⟩; clear hw; clear aB; clear aJ; clear ac; clear ad; clear ae; clear HB; have aB := n0_; have aJ := n1_; have ac := n2_; have ad := n3_; have ae := n4_; have HB := n5_; clear n0_ n1_ n2_ n3_ n4_ n5_))
 refine bodyPost_ret (results_ct rfl _ _ ak 25 #[.int .i64 (wrap64 (rd l0 1)), .int .i64 aw, .bool ((Go.bits .and .i64 (aj / 16384) 1) == 1), .bool ((Go.bits .and .i64 (aj / 8192) 1) == 1), .int .i64 (wrap64 ((Go.bits .and .i64 aj 8191) * 8)), .int .i64 (wrap64 (rd l0 8)), .int .i64 (wrap64 (rd l0 9)), .int .i64 av, .int .i64 aq, .slice ar ax.length au, .slice az ap.length aA] (0, 0) _ rfl (Bh ac) Try.underlying25 rfl (by kernel_rfl)) rfl ?_
 exact ⟨_, _, by first | rfl | (simp [errW_none, errW_some] <;> rfl) | (simp only [← hji1005]; first | rfl | (simp [errW_none, errW_some] <;> rfl)) | (simp [*, errW_none, errW_some] <;> rfl), by (with_reducible repeat (first | apply Kd.R_alloc | apply Kd.R_drewN | apply Kd.R_drew)); exact aB.out, by (with_reducible repeat (first | apply Kd.R_alloc | apply Kd.R_drewN | apply Kd.R_drew)); exact aJ.out, wB⟩
 }
 }
 }
 {
 rw [if_neg a7] at H
 exact absurd H (by simp)
 }
 }
 {
 rw [if_neg a6] at H
 exact absurd H (by simp)
 }
 }
 {
 rw [if_neg a5] at H
 exact absurd H (by simp)
 }
 }
 {
 rw [if_neg a4] at H
 exact absurd H (by simp)
 }
 }
 {
 rw [if_neg a3] at H
 exact absurd H (by simp)
 }
 }
 {
 rw [if_neg a2] at H
 exact absurd H (by simp)
 }
 }
 {
 rw [if_neg a1] at H
 exact absurd H (by simp)
 }
 }
 {
 rw [if_neg a0] at H
 exact absurd H (by simp)
 }
 }
 {
 rw [if_neg aZ] at H
 exact absurd H (by simp)
 }
 }
 {
 rw [if_neg bf] at H
 exact absurd H (by simp)
 }
 }
 {
 rw [if_neg be] at H
 exact absurd H (by simp)
 }
 }
 {
 rw [if_neg aY] at H
 exact absurd H (by simp)
 }
 }
 {
 rw [if_neg aX] at H
 exact absurd H (by simp)
 }
 }
 {
 rw [if_neg bd] at H
 exact absurd H (by simp)
 }
 }
 {
 rw [if_neg aW] at H
 exact absurd H (by simp)
 }
 }
 {
 rw [if_neg aV] at H
 exact absurd H (by simp)
 }
 }
 }
 )
 }
 {
 rw [if_neg aO] at H
 exact absurd H (by simp)
 }
 }
 {
 rw [if_neg aN] at H
 exact absurd H (by simp)
 }
 }
 {
 rw [if_neg aD] at H
 have c1009b0 : (aF == 0) = false := beq_eq_false_iff_ne.mpr aD
 have c1009b1 : (aF != 0) = true := bne_iff_ne.mpr aD
 exact absurd H (by simp)
 }
 }
 {
 rw [if_neg aM] at H
 exact absurd H (by simp)
 }
 }
 {
 rw [if_neg aL] at H
 exact absurd H (by simp)
 }
 }
 }
 )
 }
 {
 rw [if_neg c4] at H
 have c4b0 : (((rd l0 0) / 16) == 4) = false := beq_eq_false_iff_ne.mpr c4
 have c4b1 : (((rd l0 0) / 16) != 4) = true := bne_iff_ne.mpr c4
 exact absurd H (by simp)
 }
 }
 {
 rw [if_neg c3] at H
 exact absurd H (by simp)
 }
 }

end Go.Proofs.Ytckhadlmhbhngaa.PFnComplain
