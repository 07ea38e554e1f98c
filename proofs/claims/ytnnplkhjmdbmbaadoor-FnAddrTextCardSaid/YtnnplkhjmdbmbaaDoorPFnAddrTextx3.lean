-- Written for this claim by a program of this session (wip/mkprint.py: the print, turned at a few places). Not trusted: Lean checks it.
import Derived.Test.YtnnplkhjmdbmbaaDoorPFnAddrTextx0
import Derived.Test.YtnnplkhjmdbmbaaDoorPFnAddrTextx1
import Derived.Test.YtnnplkhjmdbmbaaDoorPFnAddrTextx2
namespace Go.Proofs.YtnnplkhjmdbmbaaDoor.PFnAddrText
open Go.RowKit Go.Proofs.YtnnplkhjmdbmbaaDoorW.PrintWords Go.Proofs.YtnnplkhjmdbmbaaDoorW.PrintLast Go.Proofs.YtnnplkhjmdbmbaaDoorW.PrintMore
attribute [local go_sem] max2_int min2_int max_two min_two max_three min_three max_four min_four   -- for this text's walks alone
set_option linter.unusedVariables false
set_option linter.unusedSimpArgs false

/-! ### impl_ReadMac: function 16 -/
mutual
def impl_ReadMac.l0 : Nat → List ByteArray → Int → Int → Int → Option (Int × Int)
  | 0, _, _, _, _ => none
  | k + 1, x4, x5, x17, x18 => if x18 < x17 then (if 0 ≤ x18 then (if x18 < (x4.length : Int) then (if ((rdOf ByteArray.empty x4 x18).size : Int) = 2 then (if (rdOf ByteArray.empty x4 x18).size ≤ 9223372036854775807 then ((some (bytesOf (rdOf ByteArray.empty x4 x18) : List Int)).bind fun y137 => (impl_ReadMac.l1 k x4 x5 x17 x18 y137 (y137.length : Int) 0)) else (none)) else (some (0, 6))) else (none)) else (none)) else (some (x5, 0))
def impl_ReadMac.l1 : Nat → List ByteArray → Int → Int → Int → List Int → Int → Int → Option (Int × Int)
  | 0, _, _, _, _, _, _, _ => none
  | k + 1, x4, x5, x17, x18, x26, x27, x28 => if x28 < x27 then (if 0 ≤ x28 then (if x28 < (x26.length : Int) then ((strings_IndexByte.f (⟨#[48, 49, 50, 51, 52, 53, 54, 55, 56, 57, 97, 98, 99, 100, 101, 102, 65, 66, 67, 68, 69, 70]⟩ : ByteArray) (rd x26 x28)).bind fun t144 => (if t144 < 0 then (some (0, 6)) else (if t144 > 15 then (impl_ReadMac.l1 k x4 (Go.bits .or .i64 (wrap64 (x5 * 16)) (wrap64 (t144 - 6))) x17 x18 x26 x27 (wrap64 (x28 + 1))) else (impl_ReadMac.l1 k x4 (Go.bits .or .i64 (wrap64 (x5 * 16)) t144) x17 x18 x26 x27 (wrap64 (x28 + 1)))))) else (none)) else (none)) else (impl_ReadMac.l0 k x4 x5 x17 (wrap64 (x18 + 1)))
end
def impl_ReadMac.f (k : Nat) (a0 : ByteArray) : Option (Int × Int) := (strings_Split.f a0 (⟨#[58]⟩ : ByteArray)).bind fun t133 => (if (t133.length : Int) = 6 then (impl_ReadMac.l0 k t133 0 (t133.length : Int) 0) else (some (0, 6)))
theorem impl_ReadMac.mono_l : ∀ k, (∀ y0 y1 y2 y3, LeO (impl_ReadMac.l0 k y0 y1 y2 y3) (impl_ReadMac.l0 (k + 1) y0 y1 y2 y3)) ∧ (∀ y0 y1 y2 y3 y4 y5 y6, LeO (impl_ReadMac.l1 k y0 y1 y2 y3 y4 y5 y6) (impl_ReadMac.l1 (k + 1) y0 y1 y2 y3 y4 y5 y6))
  | 0 => ⟨fun _ _ _ _ r h => by simp [impl_ReadMac.l0] at h, fun _ _ _ _ _ _ _ r h => by simp [impl_ReadMac.l1] at h⟩
  | k + 1 => by
    obtain ⟨ih0, ih1⟩ := impl_ReadMac.mono_l k
    refine ⟨?_, ?_⟩
    · intro y0 y1 y2 y3
      unfold impl_ReadMac.l0
      repeat' first
      | (with_reducible exact ih0 _ _ _ _)
      | (with_reducible exact ih1 _ _ _ _ _ _ _)
      | (with_reducible exact LeO.refl _)
      | (with_reducible exact LeO.none _)
      | (with_reducible refine LeO.ite ?_ ?_)
      | (with_reducible refine LeO.bind ?_ (fun _ => ?_))
      | exact ih0 _ _ _ _
      | exact ih1 _ _ _ _ _ _ _
      | exact LeO.none _
      | refine LeO.ite ?_ ?_
      | refine LeO.bind ?_ (fun _ => ?_)
    · intro y0 y1 y2 y3 y4 y5 y6
      unfold impl_ReadMac.l1
      repeat' first
      | (with_reducible exact ih0 _ _ _ _)
      | (with_reducible exact ih1 _ _ _ _ _ _ _)
      | (with_reducible exact LeO.refl _)
      | (with_reducible exact LeO.none _)
      | (with_reducible refine LeO.ite ?_ ?_)
      | (with_reducible refine LeO.bind ?_ (fun _ => ?_))
      | exact ih0 _ _ _ _
      | exact ih1 _ _ _ _ _ _ _
      | exact LeO.none _
      | refine LeO.ite ?_ ?_
      | refine LeO.bind ?_ (fun _ => ?_)
theorem impl_ReadMac.mono : ∀ a0 k, LeO (impl_ReadMac.f k a0) (impl_ReadMac.f (k + 1) a0) := by
 intro a0 k
 obtain ⟨ih0, ih1⟩ := impl_ReadMac.mono_l k
 unfold impl_ReadMac.f
 repeat' first
     | (with_reducible exact ih0 _ _ _ _)
     | (with_reducible exact ih1 _ _ _ _ _ _ _)
     | (with_reducible exact LeO.refl _)
     | (with_reducible exact LeO.none _)
     | (with_reducible refine LeO.ite ?_ ?_)
     | (with_reducible refine LeO.bind ?_ (fun _ => ?_))
     | exact ih0 _ _ _ _
     | exact ih1 _ _ _ _ _ _ _
     | exact LeO.none _
     | refine LeO.ite ?_ ?_
     | refine LeO.bind ?_ (fun _ => ?_)
set_option maxHeartbeats 60000000 in
set_option maxRecDepth 100000 in
theorem impl_ReadMac.calls (k : Nat) (a0 : ByteArray) (r1 : Int) (r2 : Int) (w : World) (hd : Door w) (h : impl_ReadMac.f k a0 = some (r1, r2)) :
 Calls Tryd.prog 16 #[.string a0] w fun e w' => e = .returned (.tuple #[.int .i64 r1, .int .i64 r2]) ∧ Below w.heap.size w w' := by
 have HD := Aside0.mk hd
 clear hd
 have HB := Aside0.mk (Below.refl w.heap.size w)
 have H : ((strings_Split.f a0 (⟨#[58]⟩ : ByteArray)).bind fun t133 => (if (t133.length : Int) = 6 then (impl_ReadMac.l0 k t133 0 (t133.length : Int) 0) else (some (0, 6)))) = some (r1, r2) := h
 clear h
 replace H := Option.bind_eq_some_iff.mp H
 obtain ⟨t133, A20, H⟩ := H
 replace H : (if (t133.length : Int) = 6 then (impl_ReadMac.l0 k t133 0 (t133.length : Int) 0) else (some (0, 6))) = some (r1, r2) := H
 have A2 := Aside0.mk A20
 clear A20
 by_cases c3 : (t133.length : Int) = 6
 rw [if_pos c3] at H
 have c3b0 : ((t133.length : Int) == 6) = true := beq_iff_eq.mpr c3
 have c3b1 : ((t133.length : Int) != 6) = false := bne_eq_false_iff_eq.mpr c3
 clear c3
 have H' := Aside0.mk H
 clear H
 rotate_left
 rw [if_neg c3] at H
 have c3b0 : ((t133.length : Int) == 6) = false := beq_eq_false_iff_ne.mpr c3
 have c3b1 : ((t133.length : Int) != 6) = true := bne_iff_ne.mpr c3
 simp only [Option.some.injEq, Prod.mk.injEq] at H
 obtain ⟨rfl, rfl⟩ := H
 rotate_left
 all_goals (
 go_enter Tryd.func16, Tryd.ntmps16
 go_wp2_with (first | ((with_reducible refine gate_callee (f := 36) rfl ?_); refine goesL_ (some 12) rfl rfl Tryd.func36 (by kernel_rfl) rfl #[.string a0, .string (⟨#[58]⟩ : ByteArray)] rfl wT ?_; (with_reducible refine (strings_Split.calls a0 (⟨#[58]⟩ : ByteArray) t133 _ ?side1 A2.out).mono ?_); (case side1 => repeat (first | exact HD.out | (with_reducible refine Door.c_alloc ?_ _) | (with_reducible refine Door.c_drewN ?_ _) | (with_reducible refine Door.c_drew ?_))); rintro e w1001 ⟨v134, rfl, ho0, hb⟩; refine ⟨_, rfl, ?_⟩; have n0_ := Aside0.mk (Kd.R_lower ho0 (below_size wB)); have n1_ := Aside0.mk (below_step wB hb); clear HB; have HO135 := n0_; have HB := n1_; clear n0_ n1_; (try clear hb); (try clear hb2); (try clear hk); (try clear hi); (try clear ho0); obtain ⟨Ao1002, co1002, eo1002⟩ := Kd.R_slice HO135.out; subst eo1002))
 )
 {
 go_loopg [5, 18] k (fun kq v5 v18 w' => ∃ (x5_1 : Int) (x18_1 : Int), v5 = .int .i64 x5_1 ∧ v18 = .int .i64 x18_1 ∧ Aside0 (impl_ReadMac.l0 kq t133 x5_1 (t133.length : Int) x18_1 = some (r1, r2)) ∧ Aside0 (kq ≤ k) ∧ Aside0 (Kd.R Kd.string 9 w' w.heap.size (fun _ => True) (.slice Ao1002 t133.length co1002) t133) ∧ Aside0 (Below w.heap.size w w'))
 case atStart => exact ⟨(0), (0), (by first | rfl | (simp; done) | (simp [*]; done)), (by first | rfl | (simp; done) | (simp [*]; done)), H', ⟨Nat.le_refl _⟩, ⟨Rh HO135⟩, ⟨wB⟩⟩
 case round => (
 clear H'
 try clear c3
 try clear c3b0
 try clear c3b1
 obtain ⟨x5_1, x18_1, rfl, rfl, HA, HK1, HO_4, HB⟩ := hrel
 cases gk with
 | zero => exact absurd HA.out (by simp [impl_ReadMac.l0])
 | succ k1 => {
 have H := HA.out
 clear HA
 simp only [impl_ReadMac.l0] at H
 by_cases c1003 : x18_1 < (t133.length : Int)
 {
 rw [if_pos c1003] at H
 have c1003b0 : decide (x18_1 < (t133.length : Int)) = true := decide_eq_true c1003
 clear c1003
 by_cases c1004 : 0 ≤ x18_1
 {
 rw [if_pos c1004] at H
 have c1004b0 : decide (0 ≤ x18_1) = true := decide_eq_true c1004
 clear c1004
 by_cases c1005 : x18_1 < (t133.length : Int)
 {
 rw [if_pos c1005] at H
 have c1005b0 : decide (x18_1 < (t133.length : Int)) = true := decide_eq_true c1005
 clear c1005
 by_cases c1006 : ((rdOf ByteArray.empty t133 x18_1).size : Int) = 2
 {
 rw [if_pos c1006] at H
 have c1006b0 : (((rdOf ByteArray.empty t133 x18_1).size : Int) == 2) = true := beq_iff_eq.mpr c1006
 have c1006b1 : (((rdOf ByteArray.empty t133 x18_1).size : Int) != 2) = false := bne_eq_false_iff_eq.mpr c1006
 clear c1006
 by_cases c1007 : (rdOf ByteArray.empty t133 x18_1).size ≤ 9223372036854775807
 {
 rw [if_pos c1007] at H
 have LMc1007 := Aside0.mk c1007
 clear c1007
 obtain ⟨y137, hy137⟩ : ∃ y_ : List Int, y_ = (bytesOf (rdOf ByteArray.empty t133 x18_1)) := ⟨_, rfl⟩
 replace H : (impl_ReadMac.l1 k1 t133 x5_1 (t133.length : Int) x18_1 y137 (y137.length : Int) 0) = some (r1, r2) := by first | (rw [hy137]; with_reducible exact H) | (have H2_ := (Option.bind_some _ _).symm.trans H; rw [hy137]; with_reducible exact H2_) | (have H2_ := (Option.bind_some _ _).symm.trans H; with_reducible exact H2_) | with_reducible exact H | (rw [hy137]; exact H) | exact H
 have Ny137 := Aside0.mk hy137
 clear hy137
 have H' := Aside0.mk H
 clear H
 have p136 : 0 ≤ (x18_1 : Int) := of_decide_eq_true (by first | (with_reducible assumption) | assumption)
 have q136 : x18_1 < (t133.length : Int) := of_decide_eq_true (by first | (with_reducible assumption) | assumption)
 obtain ⟨ad136, e136, hx136_0⟩ := Kd.at_string (Kd.R_reads' HO_4.out).2.2 x18_1 p136 q136
 cases e136
 replace p136 := eq_true p136
 replace q136 := eq_true q136
 go_wp2_with (first | ((with_reducible refine gate_dst (N := 26) rfl ?_); refine C_conv 5 rfl 9 22 _ rfl (rdOf ByteArray.empty t133 x18_1) rfl Tryd.underlying9 Tryd.underlying22 Tryd.underlying5 y137 Ny137.out LMc1007.out ?_; intro adc141 ccv142 w2001 hC hl hb; have n0_ := Aside0.mk (Kd.R_below (Rh HO_4) hb); have n1_ := Aside0.mk (below_step wB hb); clear HO_4; clear HB; have HO_4 := n0_; have HB := n1_; clear n0_ n1_; have HRv140 := Aside0.mk hC; have HCv140 := Aside0.mk hl; clear hb hC hl))
 go_loopg [5, 28] k1 (fun kq v5 v28 w' => ∃ (x5_2 : Int) (x28_2 : Int), v5 = .int .i64 x5_2 ∧ v28 = .int .i64 x28_2 ∧ Aside0 (impl_ReadMac.l1 kq t133 x5_2 (t133.length : Int) x18_1 y137 (y137.length : Int) x28_2 = some (r1, r2)) ∧ Aside0 (kq ≤ k1) ∧ Aside0 (Kd.R Kd.string 9 w' w.heap.size (fun _ => True) (.slice (some ad136) t133.length co1002) t133) ∧ Aside0 (Kd.C (Kd.int .u8) w' (some adc141) y137.length y137) ∧ Aside0 (Below w.heap.size w w'))
 case atStart => exact ⟨(x5_1), (0), (by first | rfl | (simp; done) | (simp [*]; done)), (by first | rfl | (simp; done) | (simp [*]; done)), H', ⟨Nat.le_refl _⟩, ⟨Rh HO_4⟩, ⟨by repeat (first | (with_reducible exact HRv140.out) | (with_reducible refine Kd.C_alloc ?_ _) | (with_reducible refine Kd.C_drewN ?_ _) | (with_reducible refine Kd.C_drew ?_) | exact HRv140.out)⟩, ⟨wB⟩⟩
 case round => (
 clear H'
 try clear c3
 try clear c3b0
 try clear c3b1
 try clear p136
 try clear q136
 try clear hx136
 try clear c1003
 try clear c1003b0
 try clear c1004
 try clear c1004b0
 try clear c1005
 try clear c1005b0
 try clear c1006
 try clear c1006b0
 try clear c1006b1
 try clear c1007
 try clear hx136_0
 try clear p136
 try clear q136
 obtain ⟨x5_2, x28_2, rfl, rfl, HA, HK2, HO_4, HRv140, HB⟩ := hrel
 cases gk with
 | zero => exact absurd HA.out (by simp [impl_ReadMac.l1])
 | succ k2 => {
 have H := HA.out
 clear HA
 simp only [impl_ReadMac.l1] at H
 by_cases c2002 : x28_2 < (y137.length : Int)
 rw [if_pos c2002] at H
 have c2002b0 : decide (x28_2 < (y137.length : Int)) = true := decide_eq_true c2002
 clear c2002
 by_cases c2003 : 0 ≤ x28_2
 rw [if_pos c2003] at H
 have c2003b0 : decide (0 ≤ x28_2) = true := decide_eq_true c2003
 clear c2003
 by_cases c2004 : x28_2 < (y137.length : Int)
 rw [if_pos c2004] at H
 have c2004b0 : decide (x28_2 < (y137.length : Int)) = true := decide_eq_true c2004
 clear c2004
 replace H := Option.bind_eq_some_iff.mp H
 obtain ⟨t144, A20050, H⟩ := H
 replace H : (if t144 < 0 then (some (0, 6)) else (if t144 > 15 then (impl_ReadMac.l1 k2 t133 (Go.bits .or .i64 (wrap64 (x5_2 * 16)) (wrap64 (t144 - 6))) (t133.length : Int) x18_1 y137 (y137.length : Int) (wrap64 (x28_2 + 1))) else (impl_ReadMac.l1 k2 t133 (Go.bits .or .i64 (wrap64 (x5_2 * 16)) t144) (t133.length : Int) x18_1 y137 (y137.length : Int) (wrap64 (x28_2 + 1))))) = some (r1, r2) := H
 have A2005 := Aside0.mk A20050
 clear A20050
 by_cases c2006 : t144 < 0
 rw [if_pos c2006] at H
 have c2006b0 : decide (t144 < 0) = true := decide_eq_true c2006
 clear c2006
 simp only [Option.some.injEq, Prod.mk.injEq] at H
 obtain ⟨rfl, rfl⟩ := H
 rotate_left
 rw [if_neg c2006] at H
 have c2006b0 : decide (t144 < 0) = false := decide_eq_false c2006
 clear c2006
 by_cases c2007 : t144 > 15
 rw [if_pos c2007] at H
 have c2007b0 : decide (15 < t144) = true := decide_eq_true c2007
 clear c2007
 have H' := Aside0.mk H
 clear H
 rotate_left
 rw [if_neg c2007] at H
 have c2007b0 : decide (15 < t144) = false := decide_eq_false c2007
 clear c2007
 have H' := Aside0.mk H
 clear H
 rotate_left
 rw [if_neg c2004] at H
 exact absurd H (by simp)
 rw [if_neg c2003] at H
 exact absurd H (by simp)
 rw [if_neg c2002] at H
 have c2002b0 : decide (x28_2 < (y137.length : Int)) = false := decide_eq_false c2002
 clear c2002
 have H' := Aside0.mk H
 clear H
 rotate_left
 iterate 3 (
 focus (
 have p143 : 0 ≤ (x28_2 : Int) := of_decide_eq_true (by first | (with_reducible assumption) | assumption)
 have q143 : x28_2 < (y137.length : Int) := of_decide_eq_true (by first | (with_reducible assumption) | assumption)
 obtain ⟨ad143, e143, hx143_0⟩ := Kd.at_int (by repeat (first | (with_reducible exact HRv140.out) | (with_reducible refine Kd.C_alloc ?_ _) | (with_reducible refine Kd.C_drewN ?_ _) | (with_reducible refine Kd.C_drew ?_) | exact HRv140.out)) x28_2 p143 q143
 obtain rfl : adc141 = ad143 := (by injection e143)
 replace p143 := eq_true p143
 replace q143 := eq_true q143
 )
 rotate_left
 )
 rotate_right 3
 {
 (try clear HO_4)
 go_wp2_with (first | ((with_reducible refine gate_callee (f := 39) rfl ?_); refine goesL_ (some 33) rfl rfl Tryd.func39 (by kernel_rfl) rfl #[.string (⟨#[48, 49, 50, 51, 52, 53, 54, 55, 56, 57, 97, 98, 99, 100, 101, 102, 65, 66, 67, 68, 69, 70]⟩ : ByteArray), .int .u8 (rd y137 x28_2)] rfl wT ?_; (with_reducible refine (strings_IndexByte.calls (⟨#[48, 49, 50, 51, 52, 53, 54, 55, 56, 57, 97, 98, 99, 100, 101, 102, 65, 66, 67, 68, 69, 70]⟩ : ByteArray) (rd y137 x28_2) t144 _ A2005.out).mono ?_); rintro e w' ⟨rfl, ⟨nd, rfl⟩⟩; refine ⟨_, rfl, ?_⟩))
 go_ret2
 exact ⟨by first | rfl | (simp [errW_none, errW_some] <;> rfl) | (simp [*, errW_none, errW_some] <;> rfl), wB⟩
 }
 iterate 2 (
 focus (
 go_wp2_with (first | ((with_reducible refine gate_callee (f := 39) rfl ?_); refine goesL_ (some 33) rfl rfl Tryd.func39 (by kernel_rfl) rfl #[.string (⟨#[48, 49, 50, 51, 52, 53, 54, 55, 56, 57, 97, 98, 99, 100, 101, 102, 65, 66, 67, 68, 69, 70]⟩ : ByteArray), .int .u8 (rd y137 x28_2)] rfl wT ?_; (with_reducible refine (strings_IndexByte.calls (⟨#[48, 49, 50, 51, 52, 53, 54, 55, 56, 57, 97, 98, 99, 100, 101, 102, 65, 66, 67, 68, 69, 70]⟩ : ByteArray) (rd y137 x28_2) t144 _ A2005.out).mono ?_); rintro e w' ⟨rfl, ⟨nd, rfl⟩⟩; refine ⟨_, rfl, ?_⟩))
 go_roundg k2
 case measure => have := HK1.out; have := HK2.out; omega
 )
 rotate_left
 )
 rotate_right 2
 {
 case rel => exact ⟨(Go.bits .or .i64 (wrap64 (x5_2 * 16)) (wrap64 (t144 - 6))), (wrap64 (x28_2 + 1)), (by first | rfl | (simp; done) | (simp [*]; done)), (by first | rfl | (simp; done) | (simp [*]; done)), H', ⟨by have := HK1.out; have := HK2.out; omega⟩, ⟨Rh HO_4⟩, ⟨by repeat (first | (with_reducible exact HRv140.out) | (with_reducible refine Kd.C_alloc ?_ _) | (with_reducible refine Kd.C_drewN ?_ _) | (with_reducible refine Kd.C_drew ?_) | exact HRv140.out)⟩, ⟨wB⟩⟩
 }
 {
 case rel => exact ⟨(Go.bits .or .i64 (wrap64 (x5_2 * 16)) t144), (wrap64 (x28_2 + 1)), (by first | rfl | (simp; done) | (simp [*]; done)), (by first | rfl | (simp; done) | (simp [*]; done)), H', ⟨by have := HK1.out; have := HK2.out; omega⟩, ⟨Rh HO_4⟩, ⟨by repeat (first | (with_reducible exact HRv140.out) | (with_reducible refine Kd.C_alloc ?_ _) | (with_reducible refine Kd.C_drewN ?_ _) | (with_reducible refine Kd.C_drew ?_) | exact HRv140.out)⟩, ⟨wB⟩⟩
 }
 {
 go_wp2
 go_roundg k2
 case measure => have := HK1.out; have := HK2.out; omega
 case rel => exact ⟨(x5_2), (wrap64 (x18_1 + 1)), (by first | rfl | (simp; done) | (simp [*]; done)), (by first | rfl | (simp; done) | (simp [*]; done)), H', ⟨by have := HK1.out; have := HK2.out; omega⟩, ⟨Rh HO_4⟩, ⟨wB⟩⟩
 }
 }
 )
 }
 {
 rw [if_neg c1007] at H
 exact absurd H (by simp)
 }
 }
 {
 rw [if_neg c1006] at H
 have c1006b0 : (((rdOf ByteArray.empty t133 x18_1).size : Int) == 2) = false := beq_eq_false_iff_ne.mpr c1006
 have c1006b1 : (((rdOf ByteArray.empty t133 x18_1).size : Int) != 2) = true := bne_iff_ne.mpr c1006
 simp only [Option.some.injEq, Prod.mk.injEq] at H
 obtain ⟨rfl, rfl⟩ := H
 have p136 : 0 ≤ (x18_1 : Int) := of_decide_eq_true (by first | (with_reducible assumption) | assumption)
 have q136 : x18_1 < (t133.length : Int) := of_decide_eq_true (by first | (with_reducible assumption) | assumption)
 obtain ⟨ad136, e136, hx136_0⟩ := Kd.at_string (Kd.R_reads' HO_4.out).2.2 x18_1 p136 q136
 cases e136
 replace p136 := eq_true p136
 replace q136 := eq_true q136
 go_wp2
 go_ret2
 exact ⟨by first | rfl | (simp [errW_none, errW_some] <;> rfl) | (simp [*, errW_none, errW_some] <;> rfl), wB⟩
 }
 }
 {
 rw [if_neg c1005] at H
 exact absurd H (by simp)
 }
 }
 {
 rw [if_neg c1004] at H
 exact absurd H (by simp)
 }
 }
 {
 rw [if_neg c1003] at H
 have c1003b0 : decide (x18_1 < (t133.length : Int)) = false := decide_eq_false c1003
 clear c1003
 simp only [Option.some.injEq, Prod.mk.injEq] at H
 obtain ⟨rfl, rfl⟩ := H
 go_wp2
 go_ret2
 exact ⟨by first | rfl | (simp [errW_none, errW_some] <;> rfl) | (simp [*, errW_none, errW_some] <;> rfl), wB⟩
 }
 }
 )
 }
 {
 go_ret2
 exact ⟨by first | rfl | (simp [errW_none, errW_some] <;> rfl) | (simp [*, errW_none, errW_some] <;> rfl), wB⟩
 }

/-! ### spec_l01In: function 66 -/
def spec_l01In.f (a0 : Int) (a1 : Int) (a2 : Int) : Option (Bool) := if a0 ≥ a1 then (some (decide (a0 ≤ a2))) else (some false)
set_option maxHeartbeats 60000000 in
set_option maxRecDepth 100000 in
theorem spec_l01In.calls (a0 : Int) (a1 : Int) (a2 : Int) (r : Bool) (w : World) (h : spec_l01In.f a0 a1 a2 = some r) :
    Calls Tryd.prog 66 #[.int .i64 a0, .int .i64 a1, .int .i64 a2] w fun e w' => e = .returned (.bool r) ∧ Drawn0 w w' := by
  have H : (if a0 ≥ a1 then (some (decide (a0 ≤ a2))) else (some false)) = some r := h
  clear h
  by_cases c4 : a0 ≥ a1
  · rw [if_pos c4] at H
    have c4b0 : decide (a1 ≤ a0) = true := decide_eq_true c4
    clear c4
    obtain rfl := Option.some.inj H
    go_enter Tryd.func66, Tryd.ntmps66
    go_wp2
    go_ret
    exact ⟨by first | rfl | (simp; done) | (simp [*]; done), by repeat (first | exact Drawn0.refl _ | apply Drawn0.step)⟩
  · rw [if_neg c4] at H
    have c4b0 : decide (a1 ≤ a0) = false := decide_eq_false c4
    clear c4
    obtain rfl := Option.some.inj H
    go_enter Tryd.func66, Tryd.ntmps66
    go_wp2
    go_ret
    exact ⟨by first | rfl | (simp; done) | (simp [*]; done), by repeat (first | exact Drawn0.refl _ | apply Drawn0.step)⟩

/-! ### spec_l02AddrOK: function 49 -/
def spec_l02AddrOK.f (a0 : Int) : Option (Bool) := (spec_l01In.f a0 0 4294967295).bind fun t145 => (some t145)
set_option maxHeartbeats 60000000 in
set_option maxRecDepth 100000 in
theorem spec_l02AddrOK.calls (a0 : Int) (r : Bool) (w : World) (h : spec_l02AddrOK.f a0 = some r) :
    Calls Tryd.prog 49 #[.int .i64 a0] w fun e w' => e = .returned (.bool r) ∧ Drawn0 w w' := by
  have H : ((spec_l01In.f a0 0 4294967295).bind fun t145 => (some t145)) = some r := h
  clear h
  replace H := Option.bind_eq_some_iff.mp H
  obtain ⟨t145, A20, H⟩ := H
  replace H : (some t145) = some r := H
  have A2 := Aside0.mk A20
  clear A20
  obtain rfl := Option.some.inj H
  go_enter Tryd.func49, Tryd.ntmps49
  go_wp2_with (first | ((with_reducible refine gate_callee (f := 66) rfl ?_); refine goesL_ (some 4) rfl rfl Tryd.func66 (by kernel_rfl) rfl #[.int .i64 a0, .int .i64 0, .int .i64 4294967295] rfl wT ?_; (with_reducible refine (spec_l01In.calls a0 0 4294967295 t145 _ A2.out).mono ?_); rintro e w' ⟨rfl, ⟨nd, rfl⟩⟩; refine ⟨_, rfl, ?_⟩))
  go_ret
  exact ⟨by first | rfl | (simp; done) | (simp [*]; done), by repeat (first | exact Drawn0.refl _ | apply Drawn0.step)⟩

/-! ### spec_l02Dec: function 50 -/
def spec_l02Dec.f : Nat → Int → Option (ByteArray)
  | 0, _ => none
  | k + 1, a0 => if a0 < 10 then (some (strOfNums (([(wrap64 (48 + a0)) % 256] : List Int)))) else ((spec_l02Dec.f k (wrap64 (Int.tdiv a0 10))).bind fun t149 => ((some (([(wrap64 (48 + (Int.tmod a0 10))) % 256] : List Int) : List Int)).bind fun y150 => (if t149.size + (strOfNums y150).size ≤ 9223372036854775807 then (some (t149 ++ (strOfNums y150))) else (none))))
theorem spec_l02Dec.mono_l : ∀ k, (∀ y0, LeO (spec_l02Dec.f k y0) (spec_l02Dec.f (k + 1) y0))
  | 0 => fun _ r h => by simp [spec_l02Dec.f] at h
  | k + 1 => by
    have ih0 := spec_l02Dec.mono_l k
    · intro y0
      unfold spec_l02Dec.f
      repeat' first
      | (with_reducible exact ih0 _)
      | (with_reducible exact LeO.refl _)
      | (with_reducible exact LeO.none _)
      | (with_reducible refine LeO.ite ?_ ?_)
      | (with_reducible refine LeO.bind ?_ (fun _ => ?_))
      | exact ih0 _
      | exact LeO.none _
      | refine LeO.ite ?_ ?_
      | refine LeO.bind ?_ (fun _ => ?_)
theorem spec_l02Dec.mono : ∀ a0 k, LeO (spec_l02Dec.f k a0) (spec_l02Dec.f (k + 1) a0) := by
 intro a0 k
 have ih0 := spec_l02Dec.mono_l k
 exact ih0 a0
def spec_l02Dec.T3 : Bool × List (List Nat × List Nat) := (true, [([], []), ([0], [0]), ([1], [1]), ([], []), ([3], [3]), ([4], [4]), ([5], [5]), ([6], [6]), ([7], [7]), ([2, 8], [2, 8]), ([9, 2, 0, 1, 2, 3, 4, 5, 6, 7, 8, 9], [9])])
def spec_l02Dec.B3 : List Nat := [0, 1, 3, 0, 8, 24, 56, 120, 248, 511, 1023]
theorem spec_l02Dec.tab3 : rtab .any (opsOf Tryd.f50 3) = spec_l02Dec.T3 := by kernel_rfl
theorem spec_l02Dec.bits3 : waitsOk spec_l02Dec.T3.2 spec_l02Dec.B3 = true := by kernel_rfl
set_option maxHeartbeats 60000000 in
set_option maxRecDepth 100000 in
theorem spec_l02Dec.calls (k : Nat) : ∀ (a0 : Int) (r : ByteArray) (w : World) (h : spec_l02Dec.f k a0 = some r),
 Calls Tryd.prog 50 #[.int .i64 a0] w fun e w' => e = .returned (.string r) ∧ Below w.heap.size w w' := by
 induction k using Nat.strongRecOn with
 | _ k ih =>
 intro a0 r w h
 cases k with
 | zero => exact absurd h (by simp [spec_l02Dec.f])
 | succ k =>
 simp only [spec_l02Dec.f] at h
 have HB := Aside0.mk (Below.refl w.heap.size w)
 have H : (if a0 < 10 then (some (strOfNums (([(wrap64 (48 + a0)) % 256] : List Int)))) else ((spec_l02Dec.f k (wrap64 (Int.tdiv a0 10))).bind fun t149 => ((some (([(wrap64 (48 + (Int.tmod a0 10))) % 256] : List Int) : List Int)).bind fun y150 => (if t149.size + (strOfNums y150).size ≤ 9223372036854775807 then (some (t149 ++ (strOfNums y150))) else (none))))) = some r := h
 clear h
 by_cases c2 : a0 < 10
 {
 rw [if_pos c2] at H
 have c2b0 : decide (a0 < 10) = true := decide_eq_true c2
 clear c2
 obtain ⟨y146, hy146⟩ : ∃ y_ : List Int, y_ = (([(wrap64 (48 + a0)) % 256] : List Int)) := ⟨_, rfl⟩
 replace H : (some (strOfNums y146)) = some r := by first | (rw [hy146]; with_reducible exact H) | (have H2_ := (Option.bind_some _ _).symm.trans H; rw [hy146]; with_reducible exact H2_) | (have H2_ := (Option.bind_some _ _).symm.trans H; with_reducible exact H2_) | with_reducible exact H | (rw [hy146]; exact H) | exact H
 have Ny146 := Aside0.mk hy146
 clear hy146
 obtain rfl := Option.some.inj H
 go_enter Tryd.func50, Tryd.ntmps50
 go_wp2_with (first | ((with_reducible refine gate_dst (N := 8) rfl ?_); refine Kd.R_lit (Kd.int .u8) _ 5 ?hg (N := 8) ?hd (xs := ([(wrap64 (48 + a0)) % 256] : List Int)) (inner := [.int .u8 ((wrap64 (48 + a0)) % 256)]) (ok := fun _ => True) (okp := fun _ => True) ?hr ?hp (fun _ hk => hk) trivial (Below.refl _ _) (Nat.le_refl _) (by simp) ?_; (case hd => rfl); (case hg => rfl); (case hr => first | (go_simp; done) | (go_simp; rfl)); (case hp => exact (Reps.one (show Kd.M (Kd.int .u8) _ _ _ ((wrap64 (48 + a0)) % 256) [.int .u8 ((wrap64 (48 + a0)) % 256)] from rfl) (Reps.none _ _))); intro v147 w1001 ho1002 hb hg_ hnew_; clear hg_ hnew_; (first | rw [← Ny146.out] at ho1002 | (simp only [Int.reduceToNat] at ho1002; rw [← Ny146.out] at ho1002)); have n0_ := Aside0.mk (Kd.R_lower ho1002 (below_size wB)); have n1_ := Aside0.mk (below_step wB hb); clear HB; have HO148 := n0_; have HB := n1_; clear n0_ n1_; clear hb ho1002; have hcv1003 := own_string (P := Tryd.prog) Tryd.underlying22 Tryd.underlying5 Tryd.underlying9 (Kd.own_of_R HO148.out)))
 go_ret
 exact ⟨by first | rfl | (simp [errW_none, errW_some] <;> rfl) | (simp [*, errW_none, errW_some] <;> rfl), wB⟩
 }
 {
 rw [if_neg c2] at H
 have c2b0 : decide (a0 < 10) = false := decide_eq_false c2
 clear c2
 replace H := Option.bind_eq_some_iff.mp H
 obtain ⟨t149, A30, H⟩ := H
 replace H : ((some (([(wrap64 (48 + (Int.tmod a0 10))) % 256] : List Int) : List Int)).bind fun y150 => (if t149.size + (strOfNums y150).size ≤ 9223372036854775807 then (some (t149 ++ (strOfNums y150))) else (none))) = some r := H
 have A3 := Aside0.mk A30
 clear A30
 obtain ⟨y150, hy150⟩ : ∃ y_ : List Int, y_ = (([(wrap64 (48 + (Int.tmod a0 10))) % 256] : List Int)) := ⟨_, rfl⟩
 replace H : (if t149.size + (strOfNums y150).size ≤ 9223372036854775807 then (some (t149 ++ (strOfNums y150))) else (none)) = some r := by first | (rw [hy150]; with_reducible exact H) | (have H2_ := (Option.bind_some _ _).symm.trans H; rw [hy150]; with_reducible exact H2_) | (have H2_ := (Option.bind_some _ _).symm.trans H; with_reducible exact H2_) | with_reducible exact H | (rw [hy150]; exact H) | exact H
 have Ny150 := Aside0.mk hy150
 clear hy150
 by_cases c4 : t149.size + (strOfNums y150).size ≤ 9223372036854775807
 {
 rw [if_pos c4] at H
 have c4b0 := eq_true c4
 have c4b1 : decide (t149.size + (strOfNums y150).size ≤ 9223372036854775807) = true := decide_eq_true c4
 try have c4b2 : (9223372036854775807 < t149.size + (strOfNums y150).size) = False := eq_false (Nat.not_lt.2 c4)
 obtain rfl := Option.some.inj H
 go_enter Tryd.func50, Tryd.ntmps50
 try go_wp2
 have n0_ := Aside0.mk (below_drew1 HB.out)
 clear HB
 have HB := n0_
 clear n0_
 refine start_ (n := 11) (S := fun w' => True) (ds := []) #[false, false, false, false, false, false, false, false, false, false, false] (by kernel_rfl) rfl rfl trivial (fun hHeld => ?_); refine with_tabW spec_l02Dec.tab3 spec_l02Dec.bits3 (fun HT_ HW_ => ?_)
 generalize w.drew = w1001 at HB hHeld ⊢
 refine pure_ (i := 0) (N := some 10) (v := ?_) (a' := ?_) #[true, false, false, false, false, false, false, false, false, false, false] rfl rfl (any_of HT_.out (by kernel_rfl)) (fun _ _ _ h => h) (Or.inl ⟨by rfl, ?_⟩) ?_ ?_
 rotate_left
 {
 intro w'
 go_simp
 with_reducible rfl
 }
 rotate_left
 {
 simp only [Act.put, List.setIfInBounds_toArray, List.set_cons_zero, List.set_cons_succ, i64_w, i32_w]
 rfl
 }
 refine pure_ (i := 1) (N := some 11) (v := ?_) (a' := ?_) #[true, true, false, false, false, false, false, false, false, false, false] rfl rfl (any_of HT_.out (by kernel_rfl)) (fun _ _ _ h => h) (Or.inl ⟨by rfl, ?_⟩) ?_ ?_
 rotate_left
 {
 intro w'
 go_simp
 with_reducible rfl
 }
 rotate_left
 {
 simp only [Act.put, List.setIfInBounds_toArray, List.set_cons_zero, List.set_cons_succ, i64_w, i32_w]
 rfl
 }
 refine pure_ (i := 3) (N := some 13) (v := ?_) (a' := ?_) #[true, true, false, true, false, false, false, false, false, false, false] rfl rfl (any_of HT_.out (by kernel_rfl)) (fun _ _ _ h => h) (Or.inl ⟨by rfl, ?_⟩) ?_ ?_
 rotate_left
 {
 intro w'
 go_simp
 with_reducible rfl
 }
 rotate_left
 {
 simp only [Act.put, List.setIfInBounds_toArray, List.set_cons_zero, List.set_cons_succ, i64_w, i32_w]
 rfl
 }
 refine pure_ (i := 4) (N := some 14) (v := ?_) (a' := ?_) #[true, true, false, true, true, false, false, false, false, false, false] rfl rfl (any_of HT_.out (by kernel_rfl)) (fun _ _ _ h => h) (Or.inl ⟨by rfl, ?_⟩) ?_ ?_
 rotate_left
 {
 intro w'
 go_simp
 with_reducible rfl
 }
 rotate_left
 {
 simp only [Act.put, List.setIfInBounds_toArray, List.set_cons_zero, List.set_cons_succ, i64_w, i32_w]
 rfl
 }
 refine pure_ (i := 5) (N := some 15) (v := ?_) (a' := ?_) #[true, true, false, true, true, true, false, false, false, false, false] rfl rfl (any_of HT_.out (by kernel_rfl)) (fun _ _ _ h => h) (Or.inl ⟨by rfl, ?_⟩) ?_ ?_
 rotate_left
 {
 intro w'
 go_simp
 with_reducible rfl
 }
 rotate_left
 {
 simp only [Act.put, List.setIfInBounds_toArray, List.set_cons_zero, List.set_cons_succ, i64_w, i32_w]
 rfl
 }
 refine pure_ (i := 6) (N := some 16) (v := ?_) (a' := ?_) #[true, true, false, true, true, true, true, false, false, false, false] rfl rfl (any_of HT_.out (by kernel_rfl)) (fun _ _ _ h => h) (Or.inl ⟨by rfl, ?_⟩) ?_ ?_
 rotate_left
 {
 intro w'
 go_simp
 with_reducible rfl
 }
 rotate_left
 {
 simp only [Act.put, List.setIfInBounds_toArray, List.set_cons_zero, List.set_cons_succ, i64_w, i32_w]
 rfl
 }
 refine join_ (σ := Value) 2 #[true, true, true, true, true, true, true, true, true, false, false] (fun s_ => [(12, .string t149), (17, s_), (18, .string (strOfNums y150))]) (fun s_ w' => (Kd.R (Kd.int .u8) 5 w' w.heap.size (fun _ => True) s_ y150) ∧ (Below w.heap.size w w')) ?_ ?_
 rotate_left
 {
 intro hCont
 refine two_ (i := 2) (j := 7) (Ni := some 12) (Nj := some 17) #[true, true, true, true, true, true, true, false, false, false, false] #[true, true, false, true, true, true, true, true, false, false, false] rfl rfl rfl rfl (two_of HT_.out (by kernel_rfl)) (by decide) (by decide) (fun K hK => ?_) (fun K hK => ?_)
 {
 skip
 refine goes_ Tryd.func50 (by kernel_rfl) rfl #[.int .i64 (wrap64 (Int.tdiv a0 10))] (by rfl) rfl rfl wT ?_
 with_reducible refine (ih k (by omega) (wrap64 (Int.tdiv a0 10)) t149 _ A3.out).mono ?_
 rintro e w1002 ⟨rfl, hb⟩
 refine ⟨_, rfl, ?_⟩
 have n0_ := Aside0.mk (below_step wB hb)
 clear HB
 have HB := n0_
 clear n0_
 (try clear hb)
 (try clear hb2)
 (try clear hk)
 (try clear hi)
 refine hK.out _ _ trivial (fun hHeld => ?_)
 clear hK K
 refine norm_ (a' := ?_) ?_ ?_
 rotate_left
 {
 show Act.put _ (some 12) _ = _
 simp only [Act.put, List.setIfInBounds_toArray, List.set_cons_zero, List.set_cons_succ, i64_w, i32_w]
 rfl
 }
 refine one_ (i := 7) (N := some 17) #[true, true, true, true, true, true, true, true, false, false, false] rfl rfl (one_of HT_.out (by kernel_rfl)) (by decide) (fun K hK => ?_)
 refine Kd.R_lit_step (Kd.int .u8) _ 5 ?hg (N := 17) ?hd (xs := ([(wrap64 (48 + (Int.tmod a0 10))) % 256] : List Int)) (inner := [.int .u8 ((wrap64 (48 + (Int.tmod a0 10))) % 256)]) (ok := fun _ => True) (okp := fun _ => True) ?hr ?hp (fun _ hk => hk) trivial (Below.refl _ _) (Nat.le_refl _) (by simp) ?_; (case hd => rfl); (case hg => rfl); (case hr => first | (go_simp; done) | (go_simp; rfl)); (case hp => exact (Reps.one (show Kd.M (Kd.int .u8) _ _ _ ((wrap64 (48 + (Int.tmod a0 10))) % 256) [.int .u8 ((wrap64 (48 + (Int.tmod a0 10))) % 256)] from rfl) (Reps.none _ _)))
 intro v151 w1003 ho1004 hb hg_ hnew_
 clear hg_ hnew_
 (first | rw [← Ny150.out] at ho1004 | (simp only [Int.reduceToNat] at ho1004; rw [← Ny150.out] at ho1004))
 have n0_ := Aside0.mk (Kd.R_lower ho1004 (below_size wB))
 have n1_ := Aside0.mk (below_step wB hb)
 clear HB
 have HO152 := n0_
 have HB := n1_
 clear n0_ n1_
 clear hb ho1004
 refine hK.out _ _ trivial (fun hHeld => ?_)
 clear hK K
 refine norm_ (a' := ?_) ?_ ?_
 rotate_left
 {
 show Act.put _ (some 17) _ = _
 simp only [Act.put, List.setIfInBounds_toArray, List.set_cons_zero, List.set_cons_succ, i64_w, i32_w]
 rfl
 }
 refine one_ (i := 8) (N := some 18) #[true, true, true, true, true, true, true, true, true, false, false] rfl rfl (one_of HT_.out (by kernel_rfl)) (by decide) (fun K hK => ?_)
 have hcv1005 := own_string (P := Tryd.prog) Tryd.underlying22 Tryd.underlying5 Tryd.underlying9 (Kd.own_of_R HO152.out)
 refine value_ (w1 := ?_) (v := ?_) (by rfl) rfl ?_ ?_
 rotate_left 2
 {
 go_simp
 constructor
 {
 rfl
 }
 {
 rfl
 }
 }
 clear hcv1005
 refine hK.out _ _ trivial (fun hHeld => ?_)
 clear hK K
 refine norm_ (a' := ?_) ?_ ?_
 rotate_left
 {
 show Act.put _ (some 18) _ = _
 simp only [Act.put, List.setIfInBounds_toArray, List.set_cons_zero, List.set_cons_succ, i64_w, i32_w]
 rfl
 }
 exact norm_ (by simp only [putAll, Act.put, List.setIfInBounds_toArray, List.set_cons_zero, List.set_cons_succ]) (hCont (v151) _ ⟨(Rh HO152), wB⟩)
 }
 {
 skip
 refine Kd.R_lit_step (Kd.int .u8) _ 5 ?hg (N := 17) ?hd (xs := ([(wrap64 (48 + (Int.tmod a0 10))) % 256] : List Int)) (inner := [.int .u8 ((wrap64 (48 + (Int.tmod a0 10))) % 256)]) (ok := fun _ => True) (okp := fun _ => True) ?hr ?hp (fun _ hk => hk) trivial (Below.refl _ _) (Nat.le_refl _) (by simp) ?_; (case hd => rfl); (case hg => rfl); (case hr => first | (go_simp; done) | (go_simp; rfl)); (case hp => exact (Reps.one (show Kd.M (Kd.int .u8) _ _ _ ((wrap64 (48 + (Int.tmod a0 10))) % 256) [.int .u8 ((wrap64 (48 + (Int.tmod a0 10))) % 256)] from rfl) (Reps.none _ _)))
 intro v151 w1002 ho1003 hb hg_ hnew_
 clear hg_ hnew_
 (first | rw [← Ny150.out] at ho1003 | (simp only [Int.reduceToNat] at ho1003; rw [← Ny150.out] at ho1003))
 have n0_ := Aside0.mk (Kd.R_lower ho1003 (below_size wB))
 have n1_ := Aside0.mk (below_step wB hb)
 clear HB
 have HO152 := n0_
 have HB := n1_
 clear n0_ n1_
 clear hb ho1003
 refine hK.out _ _ trivial (fun hHeld => ?_)
 clear hK K
 refine norm_ (a' := ?_) ?_ ?_
 rotate_left
 {
 show Act.put _ (some 17) _ = _
 simp only [Act.put, List.setIfInBounds_toArray, List.set_cons_zero, List.set_cons_succ, i64_w, i32_w]
 rfl
 }
 refine two_ (i := 2) (j := 8) (Ni := some 12) (Nj := some 18) #[true, true, true, true, true, true, true, true, false, false, false] #[true, true, false, true, true, true, true, true, true, false, false] rfl rfl rfl rfl (two_of HT_.out (by kernel_rfl)) (by decide) (by decide) (fun K hK => ?_) (fun K hK => ?_)
 {
 skip
 refine goes_ Tryd.func50 (by kernel_rfl) rfl #[.int .i64 (wrap64 (Int.tdiv a0 10))] (by rfl) rfl rfl wT ?_
 with_reducible refine (ih k (by omega) (wrap64 (Int.tdiv a0 10)) t149 _ A3.out).mono ?_
 rintro e w1004 ⟨rfl, hb⟩
 refine ⟨_, rfl, ?_⟩
 have n0_ := Aside0.mk (Kd.R_below (Rh HO152) hb)
 have n1_ := Aside0.mk (below_step wB hb)
 clear HO152
 clear HB
 have HO152 := n0_
 have HB := n1_
 clear n0_ n1_
 (try clear hb)
 (try clear hb2)
 (try clear hk)
 (try clear hi)
 refine hK.out _ _ trivial (fun hHeld => ?_)
 clear hK K
 refine norm_ (a' := ?_) ?_ ?_
 rotate_left
 {
 show Act.put _ (some 12) _ = _
 simp only [Act.put, List.setIfInBounds_toArray, List.set_cons_zero, List.set_cons_succ, i64_w, i32_w]
 rfl
 }
 refine one_ (i := 8) (N := some 18) #[true, true, true, true, true, true, true, true, true, false, false] rfl rfl (one_of HT_.out (by kernel_rfl)) (by decide) (fun K hK => ?_)
 have hcv1005 := own_string (P := Tryd.prog) Tryd.underlying22 Tryd.underlying5 Tryd.underlying9 (Kd.own_of_R HO152.out)
 refine value_ (w1 := ?_) (v := ?_) (by rfl) rfl ?_ ?_
 rotate_left 2
 {
 go_simp
 constructor
 {
 rfl
 }
 {
 rfl
 }
 }
 clear hcv1005
 refine hK.out _ _ trivial (fun hHeld => ?_)
 clear hK K
 refine norm_ (a' := ?_) ?_ ?_
 rotate_left
 {
 show Act.put _ (some 18) _ = _
 simp only [Act.put, List.setIfInBounds_toArray, List.set_cons_zero, List.set_cons_succ, i64_w, i32_w]
 rfl
 }
 exact norm_ (by simp only [putAll, Act.put, List.setIfInBounds_toArray, List.set_cons_zero, List.set_cons_succ]) (hCont (v151) _ ⟨(Rh HO152), wB⟩)
 }
 {
 skip
 have hcv1004 := own_string (P := Tryd.prog) Tryd.underlying22 Tryd.underlying5 Tryd.underlying9 (Kd.own_of_R HO152.out)
 refine value_ (w1 := ?_) (v := ?_) (by rfl) rfl ?_ ?_
 rotate_left 2
 {
 go_simp
 constructor
 {
 rfl
 }
 {
 rfl
 }
 }
 clear hcv1004
 refine hK.out _ _ trivial (fun hHeld => ?_)
 clear hK K
 refine norm_ (a' := ?_) ?_ ?_
 rotate_left
 {
 show Act.put _ (some 18) _ = _
 simp only [Act.put, List.setIfInBounds_toArray, List.set_cons_zero, List.set_cons_succ, i64_w, i32_w]
 rfl
 }
 refine one_ (i := 2) (N := some 12) #[true, true, true, true, true, true, true, true, true, false, false] rfl rfl (one_of HT_.out (by kernel_rfl)) (by decide) (fun K hK => ?_)
 refine goes_ Tryd.func50 (by kernel_rfl) rfl #[.int .i64 (wrap64 (Int.tdiv a0 10))] (by rfl) rfl rfl wT ?_
 with_reducible refine (ih k (by omega) (wrap64 (Int.tdiv a0 10)) t149 _ A3.out).mono ?_
 rintro e w1005 ⟨rfl, hb⟩
 refine ⟨_, rfl, ?_⟩
 have n0_ := Aside0.mk (Kd.R_below (Rh HO152) hb)
 have n1_ := Aside0.mk (below_step wB hb)
 clear HO152
 clear HB
 have HO152 := n0_
 have HB := n1_
 clear n0_ n1_
 (try clear hb)
 (try clear hb2)
 (try clear hk)
 (try clear hi)
 refine hK.out _ _ trivial (fun hHeld => ?_)
 clear hK K
 refine norm_ (a' := ?_) ?_ ?_
 rotate_left
 {
 show Act.put _ (some 12) _ = _
 simp only [Act.put, List.setIfInBounds_toArray, List.set_cons_zero, List.set_cons_succ, i64_w, i32_w]
 rfl
 }
 exact norm_ (by simp only [putAll, Act.put, List.setIfInBounds_toArray, List.set_cons_zero, List.set_cons_succ]) (hCont (v151) _ ⟨(Rh HO152), wB⟩)
 }
 }
 }
 rintro v151 w1006 ⟨h0_, h1_⟩
 have n0_ : Aside0 (Kd.R (Kd.int .u8) 5 w1006 w.heap.size (fun _ => True) v151 y150) := ⟨h0_⟩
 have n1_ : Aside0 (Below w.heap.size w w1006) := ⟨h1_⟩
 clear HB
 clear h0_ h1_
 have HO152 := n0_
 have HB := n1_
 clear n0_ n1_
 have hHeld := trivial
 refine norm_ (a' := ?_) ?_ ?_
 rotate_left
 {
 simp only [putAll, Act.put, List.setIfInBounds_toArray, List.set_cons_zero, List.set_cons_succ]
 rfl
 }
 refine pure_ (i := 9) (N := some 19) (v := ?_) (a' := ?_) #[true, true, true, true, true, true, true, true, true, true, false] rfl rfl (any_of HT_.out (by kernel_rfl)) (fun _ _ _ h => h) (Or.inl ⟨by rfl, ?_⟩) ?_ ?_
 rotate_left
 {
 intro w'
 go_simp
 with_reducible rfl
 }
 rotate_left
 {
 simp only [Act.put, List.setIfInBounds_toArray, List.set_cons_zero, List.set_cons_succ, i64_w, i32_w]
 rfl
 }
 refine pure_ (i := 10) (N := some 2) (v := ?_) (a' := ?_) #[true, true, true, true, true, true, true, true, true, true, true] rfl rfl (any_of HT_.out (by kernel_rfl)) (fun _ _ _ h => h) (Or.inl ⟨by rfl, ?_⟩) ?_ ?_
 rotate_left
 {
 intro w'
 go_simp
 with_reducible rfl
 }
 rotate_left
 {
 simp only [Act.put, List.setIfInBounds_toArray, List.set_cons_zero, List.set_cons_succ, i64_w, i32_w]
 rfl
 }
 refine done_ (done_of HT_.out (by kernel_rfl)) ?_
 try go_wp2
 go_ret
 exact ⟨by first | rfl | (simp [errW_none, errW_some] <;> rfl) | (simp [*, errW_none, errW_some] <;> rfl), wB⟩
 }
 {
 rw [if_neg c4] at H
 exact absurd H (by simp)
 }
 }

/-! ### spec_ShowAddr: function 22 -/
def spec_ShowAddr.f (k : Nat) (a0 : Int) : Option (ByteArray × Int) := (spec_l02AddrOK.f a0).bind fun t153 => (if t153 = true then ((spec_l02Dec.f k (a0 / 16777216)).bind fun t154 => (if t154.size + 1 ≤ 9223372036854775807 then ((spec_l02Dec.f k (Go.bits .and .i64 (a0 / 65536) 255)).bind fun t155 => (if (t154 ++ (⟨#[46]⟩ : ByteArray)).size + t155.size ≤ 9223372036854775807 then (if ((t154 ++ (⟨#[46]⟩ : ByteArray)) ++ t155).size + 1 ≤ 9223372036854775807 then ((spec_l02Dec.f k (Go.bits .and .i64 (a0 / 256) 255)).bind fun t156 => (if (((t154 ++ (⟨#[46]⟩ : ByteArray)) ++ t155) ++ (⟨#[46]⟩ : ByteArray)).size + t156.size ≤ 9223372036854775807 then (if ((((t154 ++ (⟨#[46]⟩ : ByteArray)) ++ t155) ++ (⟨#[46]⟩ : ByteArray)) ++ t156).size + 1 ≤ 9223372036854775807 then ((spec_l02Dec.f k (Go.bits .and .i64 a0 255)).bind fun t157 => (if (((((t154 ++ (⟨#[46]⟩ : ByteArray)) ++ t155) ++ (⟨#[46]⟩ : ByteArray)) ++ t156) ++ (⟨#[46]⟩ : ByteArray)).size + t157.size ≤ 9223372036854775807 then (some ((((((t154 ++ (⟨#[46]⟩ : ByteArray)) ++ t155) ++ (⟨#[46]⟩ : ByteArray)) ++ t156) ++ (⟨#[46]⟩ : ByteArray)) ++ t157, 0)) else (none))) else (none)) else (none))) else (none)) else (none))) else (none))) else (some ((⟨#[]⟩ : ByteArray), 1)))
theorem spec_ShowAddr.mono : ∀ a0 k, LeO (spec_ShowAddr.f k a0) (spec_ShowAddr.f (k + 1) a0) := by
  intro a0 k
  unfold spec_ShowAddr.f
  repeat' first
      | (with_reducible exact spec_l02Dec.mono _ _)
      | (with_reducible exact LeO.refl _)
      | (with_reducible exact LeO.none _)
      | (with_reducible refine LeO.ite ?_ ?_)
      | (with_reducible refine LeO.bind ?_ (fun _ => ?_))
      | exact spec_l02Dec.mono _ _
      | exact LeO.none _
      | refine LeO.ite ?_ ?_
      | refine LeO.bind ?_ (fun _ => ?_)
set_option maxHeartbeats 60000000 in
set_option maxRecDepth 100000 in
theorem spec_ShowAddr.calls (k : Nat) (a0 : Int) (r1 : ByteArray) (r2 : Int) (w : World) (h : spec_ShowAddr.f k a0 = some (r1, r2)) :
    Calls Tryd.prog 22 #[.int .i64 a0] w fun e w' => e = .returned (.tuple #[.string r1, .int .i64 r2]) ∧ Below w.heap.size w w' := by
  have HB := Aside0.mk (Below.refl w.heap.size w)
  have H : ((spec_l02AddrOK.f a0).bind fun t153 => (if t153 = true then ((spec_l02Dec.f k (a0 / 16777216)).bind fun t154 => (if t154.size + 1 ≤ 9223372036854775807 then ((spec_l02Dec.f k (Go.bits .and .i64 (a0 / 65536) 255)).bind fun t155 => (if (t154 ++ (⟨#[46]⟩ : ByteArray)).size + t155.size ≤ 9223372036854775807 then (if ((t154 ++ (⟨#[46]⟩ : ByteArray)) ++ t155).size + 1 ≤ 9223372036854775807 then ((spec_l02Dec.f k (Go.bits .and .i64 (a0 / 256) 255)).bind fun t156 => (if (((t154 ++ (⟨#[46]⟩ : ByteArray)) ++ t155) ++ (⟨#[46]⟩ : ByteArray)).size + t156.size ≤ 9223372036854775807 then (if ((((t154 ++ (⟨#[46]⟩ : ByteArray)) ++ t155) ++ (⟨#[46]⟩ : ByteArray)) ++ t156).size + 1 ≤ 9223372036854775807 then ((spec_l02Dec.f k (Go.bits .and .i64 a0 255)).bind fun t157 => (if (((((t154 ++ (⟨#[46]⟩ : ByteArray)) ++ t155) ++ (⟨#[46]⟩ : ByteArray)) ++ t156) ++ (⟨#[46]⟩ : ByteArray)).size + t157.size ≤ 9223372036854775807 then (some ((((((t154 ++ (⟨#[46]⟩ : ByteArray)) ++ t155) ++ (⟨#[46]⟩ : ByteArray)) ++ t156) ++ (⟨#[46]⟩ : ByteArray)) ++ t157, 0)) else (none))) else (none)) else (none))) else (none)) else (none))) else (none))) else (some ((⟨#[]⟩ : ByteArray), 1)))) = some (r1, r2) := h
  clear h
  replace H := Option.bind_eq_some_iff.mp H
  obtain ⟨t153, A20, H⟩ := H
  replace H : (if t153 = true then ((spec_l02Dec.f k (a0 / 16777216)).bind fun t154 => (if t154.size + 1 ≤ 9223372036854775807 then ((spec_l02Dec.f k (Go.bits .and .i64 (a0 / 65536) 255)).bind fun t155 => (if (t154 ++ (⟨#[46]⟩ : ByteArray)).size + t155.size ≤ 9223372036854775807 then (if ((t154 ++ (⟨#[46]⟩ : ByteArray)) ++ t155).size + 1 ≤ 9223372036854775807 then ((spec_l02Dec.f k (Go.bits .and .i64 (a0 / 256) 255)).bind fun t156 => (if (((t154 ++ (⟨#[46]⟩ : ByteArray)) ++ t155) ++ (⟨#[46]⟩ : ByteArray)).size + t156.size ≤ 9223372036854775807 then (if ((((t154 ++ (⟨#[46]⟩ : ByteArray)) ++ t155) ++ (⟨#[46]⟩ : ByteArray)) ++ t156).size + 1 ≤ 9223372036854775807 then ((spec_l02Dec.f k (Go.bits .and .i64 a0 255)).bind fun t157 => (if (((((t154 ++ (⟨#[46]⟩ : ByteArray)) ++ t155) ++ (⟨#[46]⟩ : ByteArray)) ++ t156) ++ (⟨#[46]⟩ : ByteArray)).size + t157.size ≤ 9223372036854775807 then (some ((((((t154 ++ (⟨#[46]⟩ : ByteArray)) ++ t155) ++ (⟨#[46]⟩ : ByteArray)) ++ t156) ++ (⟨#[46]⟩ : ByteArray)) ++ t157, 0)) else (none))) else (none)) else (none))) else (none)) else (none))) else (none))) else (some ((⟨#[]⟩ : ByteArray), 1))) = some (r1, r2) := H
  have A2 := Aside0.mk A20
  clear A20
  by_cases c3 : t153 = true
  · subst c3
    have H1 : ((spec_l02Dec.f k (a0 / 16777216)).bind fun t154 => (if t154.size + 1 ≤ 9223372036854775807 then ((spec_l02Dec.f k (Go.bits .and .i64 (a0 / 65536) 255)).bind fun t155 => (if (t154 ++ (⟨#[46]⟩ : ByteArray)).size + t155.size ≤ 9223372036854775807 then (if ((t154 ++ (⟨#[46]⟩ : ByteArray)) ++ t155).size + 1 ≤ 9223372036854775807 then ((spec_l02Dec.f k (Go.bits .and .i64 (a0 / 256) 255)).bind fun t156 => (if (((t154 ++ (⟨#[46]⟩ : ByteArray)) ++ t155) ++ (⟨#[46]⟩ : ByteArray)).size + t156.size ≤ 9223372036854775807 then (if ((((t154 ++ (⟨#[46]⟩ : ByteArray)) ++ t155) ++ (⟨#[46]⟩ : ByteArray)) ++ t156).size + 1 ≤ 9223372036854775807 then ((spec_l02Dec.f k (Go.bits .and .i64 a0 255)).bind fun t157 => (if (((((t154 ++ (⟨#[46]⟩ : ByteArray)) ++ t155) ++ (⟨#[46]⟩ : ByteArray)) ++ t156) ++ (⟨#[46]⟩ : ByteArray)).size + t157.size ≤ 9223372036854775807 then (some ((((((t154 ++ (⟨#[46]⟩ : ByteArray)) ++ t155) ++ (⟨#[46]⟩ : ByteArray)) ++ t156) ++ (⟨#[46]⟩ : ByteArray)) ++ t157, 0)) else (none))) else (none)) else (none))) else (none)) else (none))) else (none))) = some (r1, r2) := by rw [if_pos rfl] at H; exact H
    clear H
    have H := H1
    clear H1
    replace H := Option.bind_eq_some_iff.mp H
    obtain ⟨t154, A40, H⟩ := H
    replace H : (if t154.size + 1 ≤ 9223372036854775807 then ((spec_l02Dec.f k (Go.bits .and .i64 (a0 / 65536) 255)).bind fun t155 => (if (t154 ++ (⟨#[46]⟩ : ByteArray)).size + t155.size ≤ 9223372036854775807 then (if ((t154 ++ (⟨#[46]⟩ : ByteArray)) ++ t155).size + 1 ≤ 9223372036854775807 then ((spec_l02Dec.f k (Go.bits .and .i64 (a0 / 256) 255)).bind fun t156 => (if (((t154 ++ (⟨#[46]⟩ : ByteArray)) ++ t155) ++ (⟨#[46]⟩ : ByteArray)).size + t156.size ≤ 9223372036854775807 then (if ((((t154 ++ (⟨#[46]⟩ : ByteArray)) ++ t155) ++ (⟨#[46]⟩ : ByteArray)) ++ t156).size + 1 ≤ 9223372036854775807 then ((spec_l02Dec.f k (Go.bits .and .i64 a0 255)).bind fun t157 => (if (((((t154 ++ (⟨#[46]⟩ : ByteArray)) ++ t155) ++ (⟨#[46]⟩ : ByteArray)) ++ t156) ++ (⟨#[46]⟩ : ByteArray)).size + t157.size ≤ 9223372036854775807 then (some ((((((t154 ++ (⟨#[46]⟩ : ByteArray)) ++ t155) ++ (⟨#[46]⟩ : ByteArray)) ++ t156) ++ (⟨#[46]⟩ : ByteArray)) ++ t157, 0)) else (none))) else (none)) else (none))) else (none)) else (none))) else (none)) = some (r1, r2) := H
    have A4 := Aside0.mk A40
    clear A40
    by_cases c5 : t154.size + 1 ≤ 9223372036854775807
    · rw [if_pos c5] at H
      have c5b0 := eq_true c5
      have c5b1 : decide (t154.size + 1 ≤ 9223372036854775807) = true := decide_eq_true c5
      try have c5b2 : (9223372036854775807 < t154.size + 1) = False := eq_false (Nat.not_lt.2 c5)
      replace H := Option.bind_eq_some_iff.mp H
      obtain ⟨t155, A60, H⟩ := H
      replace H : (if (t154 ++ (⟨#[46]⟩ : ByteArray)).size + t155.size ≤ 9223372036854775807 then (if ((t154 ++ (⟨#[46]⟩ : ByteArray)) ++ t155).size + 1 ≤ 9223372036854775807 then ((spec_l02Dec.f k (Go.bits .and .i64 (a0 / 256) 255)).bind fun t156 => (if (((t154 ++ (⟨#[46]⟩ : ByteArray)) ++ t155) ++ (⟨#[46]⟩ : ByteArray)).size + t156.size ≤ 9223372036854775807 then (if ((((t154 ++ (⟨#[46]⟩ : ByteArray)) ++ t155) ++ (⟨#[46]⟩ : ByteArray)) ++ t156).size + 1 ≤ 9223372036854775807 then ((spec_l02Dec.f k (Go.bits .and .i64 a0 255)).bind fun t157 => (if (((((t154 ++ (⟨#[46]⟩ : ByteArray)) ++ t155) ++ (⟨#[46]⟩ : ByteArray)) ++ t156) ++ (⟨#[46]⟩ : ByteArray)).size + t157.size ≤ 9223372036854775807 then (some ((((((t154 ++ (⟨#[46]⟩ : ByteArray)) ++ t155) ++ (⟨#[46]⟩ : ByteArray)) ++ t156) ++ (⟨#[46]⟩ : ByteArray)) ++ t157, 0)) else (none))) else (none)) else (none))) else (none)) else (none)) = some (r1, r2) := H
      have A6 := Aside0.mk A60
      clear A60
      by_cases c7 : (t154 ++ (⟨#[46]⟩ : ByteArray)).size + t155.size ≤ 9223372036854775807
      · rw [if_pos c7] at H
        have c7b0 := eq_true c7
        have c7b1 : decide ((t154 ++ (⟨#[46]⟩ : ByteArray)).size + t155.size ≤ 9223372036854775807) = true := decide_eq_true c7
        try have c7b2 : (9223372036854775807 < (t154 ++ (⟨#[46]⟩ : ByteArray)).size + t155.size) = False := eq_false (Nat.not_lt.2 c7)
        (try (have c7b5 := c7b2; simp only [ByteArray.size_append, show (⟨#[46]⟩ : ByteArray).size = 1 from rfl] at c7b5))
        by_cases c8 : ((t154 ++ (⟨#[46]⟩ : ByteArray)) ++ t155).size + 1 ≤ 9223372036854775807
        · rw [if_pos c8] at H
          have c8b0 := eq_true c8
          have c8b1 : decide (((t154 ++ (⟨#[46]⟩ : ByteArray)) ++ t155).size + 1 ≤ 9223372036854775807) = true := decide_eq_true c8
          try have c8b2 : (9223372036854775807 < ((t154 ++ (⟨#[46]⟩ : ByteArray)) ++ t155).size + 1) = False := eq_false (Nat.not_lt.2 c8)
          (try (have c8b5 := c8b2; simp only [ByteArray.size_append, show (⟨#[46]⟩ : ByteArray).size = 1 from rfl] at c8b5))
          replace H := Option.bind_eq_some_iff.mp H
          obtain ⟨t156, A90, H⟩ := H
          replace H : (if (((t154 ++ (⟨#[46]⟩ : ByteArray)) ++ t155) ++ (⟨#[46]⟩ : ByteArray)).size + t156.size ≤ 9223372036854775807 then (if ((((t154 ++ (⟨#[46]⟩ : ByteArray)) ++ t155) ++ (⟨#[46]⟩ : ByteArray)) ++ t156).size + 1 ≤ 9223372036854775807 then ((spec_l02Dec.f k (Go.bits .and .i64 a0 255)).bind fun t157 => (if (((((t154 ++ (⟨#[46]⟩ : ByteArray)) ++ t155) ++ (⟨#[46]⟩ : ByteArray)) ++ t156) ++ (⟨#[46]⟩ : ByteArray)).size + t157.size ≤ 9223372036854775807 then (some ((((((t154 ++ (⟨#[46]⟩ : ByteArray)) ++ t155) ++ (⟨#[46]⟩ : ByteArray)) ++ t156) ++ (⟨#[46]⟩ : ByteArray)) ++ t157, 0)) else (none))) else (none)) else (none)) = some (r1, r2) := H
          have A9 := Aside0.mk A90
          clear A90
          by_cases c10 : (((t154 ++ (⟨#[46]⟩ : ByteArray)) ++ t155) ++ (⟨#[46]⟩ : ByteArray)).size + t156.size ≤ 9223372036854775807
          · rw [if_pos c10] at H
            have c10b0 := eq_true c10
            have c10b1 : decide ((((t154 ++ (⟨#[46]⟩ : ByteArray)) ++ t155) ++ (⟨#[46]⟩ : ByteArray)).size + t156.size ≤ 9223372036854775807) = true := decide_eq_true c10
            try have c10b2 : (9223372036854775807 < (((t154 ++ (⟨#[46]⟩ : ByteArray)) ++ t155) ++ (⟨#[46]⟩ : ByteArray)).size + t156.size) = False := eq_false (Nat.not_lt.2 c10)
            (try (have c10b5 := c10b2; simp only [ByteArray.size_append, show (⟨#[46]⟩ : ByteArray).size = 1 from rfl] at c10b5))
            by_cases c11 : ((((t154 ++ (⟨#[46]⟩ : ByteArray)) ++ t155) ++ (⟨#[46]⟩ : ByteArray)) ++ t156).size + 1 ≤ 9223372036854775807
            · rw [if_pos c11] at H
              have c11b0 := eq_true c11
              have c11b1 : decide (((((t154 ++ (⟨#[46]⟩ : ByteArray)) ++ t155) ++ (⟨#[46]⟩ : ByteArray)) ++ t156).size + 1 ≤ 9223372036854775807) = true := decide_eq_true c11
              try have c11b2 : (9223372036854775807 < ((((t154 ++ (⟨#[46]⟩ : ByteArray)) ++ t155) ++ (⟨#[46]⟩ : ByteArray)) ++ t156).size + 1) = False := eq_false (Nat.not_lt.2 c11)
              (try (have c11b5 := c11b2; simp only [ByteArray.size_append, show (⟨#[46]⟩ : ByteArray).size = 1 from rfl] at c11b5))
              replace H := Option.bind_eq_some_iff.mp H
              obtain ⟨t157, A120, H⟩ := H
              replace H : (if (((((t154 ++ (⟨#[46]⟩ : ByteArray)) ++ t155) ++ (⟨#[46]⟩ : ByteArray)) ++ t156) ++ (⟨#[46]⟩ : ByteArray)).size + t157.size ≤ 9223372036854775807 then (some ((((((t154 ++ (⟨#[46]⟩ : ByteArray)) ++ t155) ++ (⟨#[46]⟩ : ByteArray)) ++ t156) ++ (⟨#[46]⟩ : ByteArray)) ++ t157, 0)) else (none)) = some (r1, r2) := H
              have A12 := Aside0.mk A120
              clear A120
              by_cases c13 : (((((t154 ++ (⟨#[46]⟩ : ByteArray)) ++ t155) ++ (⟨#[46]⟩ : ByteArray)) ++ t156) ++ (⟨#[46]⟩ : ByteArray)).size + t157.size ≤ 9223372036854775807
              · rw [if_pos c13] at H
                have c13b0 := eq_true c13
                have c13b1 : decide ((((((t154 ++ (⟨#[46]⟩ : ByteArray)) ++ t155) ++ (⟨#[46]⟩ : ByteArray)) ++ t156) ++ (⟨#[46]⟩ : ByteArray)).size + t157.size ≤ 9223372036854775807) = true := decide_eq_true c13
                try have c13b2 : (9223372036854775807 < (((((t154 ++ (⟨#[46]⟩ : ByteArray)) ++ t155) ++ (⟨#[46]⟩ : ByteArray)) ++ t156) ++ (⟨#[46]⟩ : ByteArray)).size + t157.size) = False := eq_false (Nat.not_lt.2 c13)
                (try (have c13b5 := c13b2; simp only [ByteArray.size_append, show (⟨#[46]⟩ : ByteArray).size = 1 from rfl] at c13b5))
                simp only [Option.some.injEq, Prod.mk.injEq] at H
                obtain ⟨rfl, rfl⟩ := H
                go_enter Tryd.func22, Tryd.ntmps22
                go_wp2_with (first | ((with_reducible refine gate_callee (f := 49) rfl ?_); refine goesL_ (some 5) rfl rfl Tryd.func49 (by kernel_rfl) rfl #[.int .i64 a0] rfl wT ?_; (with_reducible refine (spec_l02AddrOK.calls a0 true _ A2.out).mono ?_); rintro e w' ⟨rfl, ⟨nd, rfl⟩⟩; refine ⟨_, rfl, ?_⟩) | ((with_reducible refine gate_callee (f := 50) rfl ?_); refine goesL_ (some 9) rfl rfl Tryd.func50 (by kernel_rfl) rfl #[.int .i64 (a0 / 16777216)] rfl wT ?_; (with_reducible refine (spec_l02Dec.calls k (a0 / 16777216) t154 _ A4.out).mono ?_); rintro e w1001 ⟨rfl, hb⟩; refine ⟨_, rfl, ?_⟩; have n0_ := Aside0.mk (below_step wB hb); clear HB; have HB := n0_; clear n0_; (try clear hb); (try clear hb2); (try clear hk); (try clear hi)) | ((with_reducible refine gate_callee (f := 50) rfl ?_); refine goesL_ (some 14) rfl rfl Tryd.func50 (by kernel_rfl) rfl #[.int .i64 (Go.bits .and .i64 (a0 / 65536) 255)] rfl wT ?_; (with_reducible refine (spec_l02Dec.calls k (Go.bits .and .i64 (a0 / 65536) 255) t155 _ A6.out).mono ?_); rintro e w1002 ⟨rfl, hb⟩; refine ⟨_, rfl, ?_⟩; have n0_ := Aside0.mk (below_step wB hb); clear HB; have HB := n0_; clear n0_; (try clear hb); (try clear hb2); (try clear hk); (try clear hi)) | ((with_reducible refine gate_callee (f := 50) rfl ?_); refine goesL_ (some 20) rfl rfl Tryd.func50 (by kernel_rfl) rfl #[.int .i64 (Go.bits .and .i64 (a0 / 256) 255)] rfl wT ?_; (with_reducible refine (spec_l02Dec.calls k (Go.bits .and .i64 (a0 / 256) 255) t156 _ A9.out).mono ?_); rintro e w1003 ⟨rfl, hb⟩; refine ⟨_, rfl, ?_⟩; have n0_ := Aside0.mk (below_step wB hb); clear HB; have HB := n0_; clear n0_; (try clear hb); (try clear hb2); (try clear hk); (try clear hi)) | ((with_reducible refine gate_callee (f := 50) rfl ?_); refine goesL_ (some 25) rfl rfl Tryd.func50 (by kernel_rfl) rfl #[.int .i64 (Go.bits .and .i64 a0 255)] rfl wT ?_; (with_reducible refine (spec_l02Dec.calls k (Go.bits .and .i64 a0 255) t157 _ A12.out).mono ?_); rintro e w1004 ⟨rfl, hb⟩; refine ⟨_, rfl, ?_⟩; have n0_ := Aside0.mk (below_step wB hb); clear HB; have HB := n0_; clear n0_; (try clear hb); (try clear hb2); (try clear hk); (try clear hi)))
                go_ret2
                exact ⟨by first | rfl | (simp [errW_none, errW_some] <;> rfl) | (simp [*, errW_none, errW_some] <;> rfl), wB⟩
              · rw [if_neg c13] at H
                exact absurd H (by simp)
            · rw [if_neg c11] at H
              exact absurd H (by simp)
          · rw [if_neg c10] at H
            exact absurd H (by simp)
        · rw [if_neg c8] at H
          exact absurd H (by simp)
      · rw [if_neg c7] at H
        exact absurd H (by simp)
    · rw [if_neg c5] at H
      exact absurd H (by simp)
  · replace c3 := Bool.eq_false_iff.mpr c3
    subst c3
    have H1 : (some ((⟨#[]⟩ : ByteArray), 1)) = some (r1, r2) := by rw [if_neg (show ¬ (false = true) by decide)] at H; exact H
    clear H
    have H := H1
    clear H1
    simp only [Option.some.injEq, Prod.mk.injEq] at H
    obtain ⟨rfl, rfl⟩ := H
    go_enter Tryd.func22, Tryd.ntmps22
    go_wp2_with (first | ((with_reducible refine gate_callee (f := 49) rfl ?_); refine goesL_ (some 5) rfl rfl Tryd.func49 (by kernel_rfl) rfl #[.int .i64 a0] rfl wT ?_; (with_reducible refine (spec_l02AddrOK.calls a0 false _ A2.out).mono ?_); rintro e w' ⟨rfl, ⟨nd, rfl⟩⟩; refine ⟨_, rfl, ?_⟩))
    go_ret2
    exact ⟨by first | rfl | (simp [errW_none, errW_some] <;> rfl) | (simp [*, errW_none, errW_some] <;> rfl), wB⟩

end Go.Proofs.YtnnplkhjmdbmbaaDoor.PFnAddrText
