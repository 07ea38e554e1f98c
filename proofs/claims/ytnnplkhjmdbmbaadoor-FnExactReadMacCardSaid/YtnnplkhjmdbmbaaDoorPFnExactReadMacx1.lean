-- Written for this claim by a program of this session (wip/mkprint.py: the print, turned at a few places). Not trusted: Lean checks it.
import Derived.Test.YtnnplkhjmdbmbaaDoorPFnExactReadMacx0
namespace Go.Proofs.YtnnplkhjmdbmbaaDoor.PFnExactReadMac
open Go.RowKit Go.Proofs.YtnnplkhjmdbmbaaDoorW.PrintWords Go.Proofs.YtnnplkhjmdbmbaaDoorW.PrintLast Go.Proofs.YtnnplkhjmdbmbaaDoorW.PrintMore
attribute [local go_sem] max2_int min2_int max_two min_two max_three min_three max_four min_four   -- for this text's walks alone
set_option linter.unusedVariables false
set_option linter.unusedSimpArgs false

/-! ### strings_Split: function 36 -/
def strings_Split.f (a0 a1 : ByteArray) : Option (List ByteArray) := if a0.size < 4294967281 ∧ 1 ≤ a1.size then some (Lib.splitB a1 0 (Lib.countB a0 a1) a0) else none
theorem strings_Split.row (w : World) (xs : List ByteArray) (hn : xs.length ≤ 9223372036854775807) : Kd.R Kd.string 9 (w.alloc (.cells (xs.map Value.string).toArray 9)) w.heap.size (fun _ => True) (.slice (some ⟨w.heap.size, 0, none⟩) xs.length xs.length) xs := by
  refine ⟨fun _ _ => trivial, OwnRow.lit w _ ⟨by show _ = xs.length * 1; simp, fun j p hj => ?_⟩ (Nat.le_refl _) hn⟩
  show ((xs.map Value.string).drop (j * 1)).take 1 = [Value.string p]
  obtain ⟨hl, rfl⟩ := List.getElem?_eq_some_iff.1 hj
  rw [Nat.mul_one, List.drop_eq_getElem_cons (by simpa using hl)]
  simp
theorem strings_Split.calls (a0 a1 : ByteArray) (r : List ByteArray) (w : World) (hd : Door w) (h : strings_Split.f a0 a1 = some r) :
    Calls Tryd.prog 36 #[.string a0, .string a1] w fun e w' => ∃ v0_ : Value, e = .returned (v0_) ∧ Kd.R Kd.string 9 w' w.heap.size (fun _ => True) v0_ r ∧ Below w.heap.size w w' := by
  unfold strings_Split.f at h
  split at h
  · rename_i hc
    obtain rfl := Option.some.inj h
    obtain ⟨m, hm⟩ := hd.1
    have hl := Lib.splitB_all a1 hc.2 0 (Lib.countB a0 a1) a0 rfl
    have hb := Lib.countB_le a1 hc.2 a0.size a0 (Nat.le_refl _)
    refine (Tryd.strings_Split a0 a1 m w hc.1 hm hc.2).mono ?_
    rintro e w' ⟨rfl, rfl⟩
    refine ⟨_, rfl, ?_, Below.alloc (Below.refl _ _) (Nat.le_refl _) _⟩
    rw [← hl]
    exact strings_Split.row w _ (by omega)
  · cases h


/-! ### strings_IndexByte: function 39 -/
def strings_IndexByte.f (a0 : ByteArray) (a1 : Int) : Option Int := some (Lib.indexByte a0.data.toList a1.toNat.toUInt8)
theorem strings_IndexByte.calls (a0 : ByteArray) (a1 : Int) (r : Int) (w : World) (h : strings_IndexByte.f a0 a1 = some r) :
    Calls Tryd.prog 39 #[.string a0, .int .u8 a1] w fun e w' => e = .returned (.int .i64 r) ∧ Drawn0 w w' := by
  obtain rfl := Option.some.inj h
  refine (Tryd.strings_IndexByte a0 a1 w).mono ?_
  rintro e w' ⟨rfl, rfl⟩
  exact ⟨rfl, 0, rfl⟩


/-! ### impl_ReadMac: function 16 -/
mutual
def impl_ReadMac.l0 : Nat → List ByteArray → Int → Int → Int → Option (Int × Int)
  | 0, _, _, _, _ => none
  | k + 1, x4, x5, x17, x18 => if x18 < x17 then (if 0 ≤ x18 then (if x18 < (x4.length : Int) then (if ((rdOf ByteArray.empty x4 x18).size : Int) = 2 then (if (rdOf ByteArray.empty x4 x18).size ≤ 9223372036854775807 then ((some (bytesOf (rdOf ByteArray.empty x4 x18) : List Int)).bind fun y105 => (impl_ReadMac.l1 k x4 x5 x17 x18 y105 (y105.length : Int) 0)) else (none)) else (some (0, 6))) else (none)) else (none)) else (some (x5, 0))
def impl_ReadMac.l1 : Nat → List ByteArray → Int → Int → Int → List Int → Int → Int → Option (Int × Int)
  | 0, _, _, _, _, _, _, _ => none
  | k + 1, x4, x5, x17, x18, x26, x27, x28 => if x28 < x27 then (if 0 ≤ x28 then (if x28 < (x26.length : Int) then ((strings_IndexByte.f (⟨#[48, 49, 50, 51, 52, 53, 54, 55, 56, 57, 97, 98, 99, 100, 101, 102, 65, 66, 67, 68, 69, 70]⟩ : ByteArray) (rd x26 x28)).bind fun t112 => (if t112 < 0 then (some (0, 6)) else (if t112 > 15 then (impl_ReadMac.l1 k x4 (Go.bits .or .i64 (wrap64 (x5 * 16)) (wrap64 (t112 - 6))) x17 x18 x26 x27 (wrap64 (x28 + 1))) else (impl_ReadMac.l1 k x4 (Go.bits .or .i64 (wrap64 (x5 * 16)) t112) x17 x18 x26 x27 (wrap64 (x28 + 1)))))) else (none)) else (none)) else (impl_ReadMac.l0 k x4 x5 x17 (wrap64 (x18 + 1)))
end
def impl_ReadMac.f (k : Nat) (a0 : ByteArray) : Option (Int × Int) := (strings_Split.f a0 (⟨#[58]⟩ : ByteArray)).bind fun t101 => (if (t101.length : Int) = 6 then (impl_ReadMac.l0 k t101 0 (t101.length : Int) 0) else (some (0, 6)))
theorem impl_ReadMac.mono_l : ∀ k, (∀ y0 y1 y2 y3, LeO (impl_ReadMac.l0 k y0 y1 y2 y3) (impl_ReadMac.l0 (k + 1) y0 y1 y2 y3)) ∧ (∀ y0 y1 y2 y3 y4 y5 y6, LeO (impl_ReadMac.l1 k y0 y1 y2 y3 y4 y5 y6) (impl_ReadMac.l1 (k + 1) y0 y1 y2 y3 y4 y5 y6))
  | 0 => ⟨fun _ _ _ _ r h => by simp [impl_ReadMac.l0] at h, fun _ _ _ _ _ _ _ r h => by simp [impl_ReadMac.l1] at h⟩
  | k + 1 => by
    obtain ⟨ih0, ih1⟩ := impl_ReadMac.mono_l k
    refine ⟨?_, ?_⟩
    · intro y0 y1 y2 y3
      unfold impl_ReadMac.l0
      repeat' first
      | (with_reducible exact ih0 _ _ _ _)
      | (with_reducible exact ih1 _ _ _ _ _ _ _)
      | (with_reducible exact LeO.refl _)
      | (with_reducible exact LeO.none _)
      | (with_reducible refine LeO.ite ?_ ?_)
      | (with_reducible refine LeO.bind ?_ (fun _ => ?_))
      | exact ih0 _ _ _ _
      | exact ih1 _ _ _ _ _ _ _
      | exact LeO.none _
      | refine LeO.ite ?_ ?_
      | refine LeO.bind ?_ (fun _ => ?_)
    · intro y0 y1 y2 y3 y4 y5 y6
      unfold impl_ReadMac.l1
      repeat' first
      | (with_reducible exact ih0 _ _ _ _)
      | (with_reducible exact ih1 _ _ _ _ _ _ _)
      | (with_reducible exact LeO.refl _)
      | (with_reducible exact LeO.none _)
      | (with_reducible refine LeO.ite ?_ ?_)
      | (with_reducible refine LeO.bind ?_ (fun _ => ?_))
      | exact ih0 _ _ _ _
      | exact ih1 _ _ _ _ _ _ _
      | exact LeO.none _
      | refine LeO.ite ?_ ?_
      | refine LeO.bind ?_ (fun _ => ?_)
theorem impl_ReadMac.mono : ∀ a0 k, LeO (impl_ReadMac.f k a0) (impl_ReadMac.f (k + 1) a0) := by
 intro a0 k
 obtain ⟨ih0, ih1⟩ := impl_ReadMac.mono_l k
 unfold impl_ReadMac.f
 repeat' first
     | (with_reducible exact ih0 _ _ _ _)
     | (with_reducible exact ih1 _ _ _ _ _ _ _)
     | (with_reducible exact LeO.refl _)
     | (with_reducible exact LeO.none _)
     | (with_reducible refine LeO.ite ?_ ?_)
     | (with_reducible refine LeO.bind ?_ (fun _ => ?_))
     | exact ih0 _ _ _ _
     | exact ih1 _ _ _ _ _ _ _
     | exact LeO.none _
     | refine LeO.ite ?_ ?_
     | refine LeO.bind ?_ (fun _ => ?_)
set_option maxHeartbeats 60000000 in
set_option maxRecDepth 100000 in
theorem impl_ReadMac.calls (k : Nat) (a0 : ByteArray) (r1 : Int) (r2 : Int) (w : World) (hd : Door w) (h : impl_ReadMac.f k a0 = some (r1, r2)) :
 Calls Tryd.prog 16 #[.string a0] w fun e w' => e = .returned (.tuple #[.int .i64 r1, .int .i64 r2]) ∧ Below w.heap.size w w' := by
 have HD := Aside0.mk hd
 clear hd
 have HB := Aside0.mk (Below.refl w.heap.size w)
 have H : ((strings_Split.f a0 (⟨#[58]⟩ : ByteArray)).bind fun t101 => (if (t101.length : Int) = 6 then (impl_ReadMac.l0 k t101 0 (t101.length : Int) 0) else (some (0, 6)))) = some (r1, r2) := h
 clear h
 replace H := Option.bind_eq_some_iff.mp H
 obtain ⟨t101, A20, H⟩ := H
 replace H : (if (t101.length : Int) = 6 then (impl_ReadMac.l0 k t101 0 (t101.length : Int) 0) else (some (0, 6))) = some (r1, r2) := H
 have A2 := Aside0.mk A20
 clear A20
 by_cases c3 : (t101.length : Int) = 6
 rw [if_pos c3] at H
 have c3b0 : ((t101.length : Int) == 6) = true := beq_iff_eq.mpr c3
 have c3b1 : ((t101.length : Int) != 6) = false := bne_eq_false_iff_eq.mpr c3
 clear c3
 have H' := Aside0.mk H
 clear H
 rotate_left
 rw [if_neg c3] at H
 have c3b0 : ((t101.length : Int) == 6) = false := beq_eq_false_iff_ne.mpr c3
 have c3b1 : ((t101.length : Int) != 6) = true := bne_iff_ne.mpr c3
 simp only [Option.some.injEq, Prod.mk.injEq] at H
 obtain ⟨rfl, rfl⟩ := H
 rotate_left
 all_goals (
 go_enter Tryd.func16, Tryd.ntmps16
 go_wp2_with (first | ((with_reducible refine gate_callee (f := 36) rfl ?_); refine goesL_ (some 12) rfl rfl Tryd.func36 (by kernel_rfl) rfl #[.string a0, .string (⟨#[58]⟩ : ByteArray)] rfl wT ?_; (with_reducible refine (strings_Split.calls a0 (⟨#[58]⟩ : ByteArray) t101 _ ?side1 A2.out).mono ?_); (case side1 => repeat (first | exact HD.out | (with_reducible refine Door.c_alloc ?_ _) | (with_reducible refine Door.c_drewN ?_ _) | (with_reducible refine Door.c_drew ?_))); rintro e w1001 ⟨v102, rfl, ho0, hb⟩; refine ⟨_, rfl, ?_⟩; have n0_ := Aside0.mk (Kd.R_lower ho0 (below_size wB)); have n1_ := Aside0.mk (below_step wB hb); clear HB; have HO103 := n0_; have HB := n1_; clear n0_ n1_; (try clear hb); (try clear hb2); (try clear hk); (try clear hi); (try clear ho0); obtain ⟨Ao1002, co1002, eo1002⟩ := Kd.R_slice HO103.out; subst eo1002))
 )
 {
 go_loopg [5, 18] k (fun kq v5 v18 w' => ∃ (x5_1 : Int) (x18_1 : Int), v5 = .int .i64 x5_1 ∧ v18 = .int .i64 x18_1 ∧ Aside0 (impl_ReadMac.l0 kq t101 x5_1 (t101.length : Int) x18_1 = some (r1, r2)) ∧ Aside0 (kq ≤ k) ∧ Aside0 (Kd.R Kd.string 9 w' w.heap.size (fun _ => True) (.slice Ao1002 t101.length co1002) t101) ∧ Aside0 (Below w.heap.size w w'))
 case atStart => exact ⟨(0), (0), (by first | rfl | (simp; done) | (simp [*]; done)), (by first | rfl | (simp; done) | (simp [*]; done)), H', ⟨Nat.le_refl _⟩, ⟨Rh HO103⟩, ⟨wB⟩⟩
 case round => (
 clear H'
 try clear c3
 try clear c3b0
 try clear c3b1
 obtain ⟨x5_1, x18_1, rfl, rfl, HA, HK1, HO_4, HB⟩ := hrel
 cases gk with
 | zero => exact absurd HA.out (by simp [impl_ReadMac.l0])
 | succ k1 => {
 have H := HA.out
 clear HA
 simp only [impl_ReadMac.l0] at H
 by_cases c1003 : x18_1 < (t101.length : Int)
 {
 rw [if_pos c1003] at H
 have c1003b0 : decide (x18_1 < (t101.length : Int)) = true := decide_eq_true c1003
 clear c1003
 by_cases c1004 : 0 ≤ x18_1
 {
 rw [if_pos c1004] at H
 have c1004b0 : decide (0 ≤ x18_1) = true := decide_eq_true c1004
 clear c1004
 by_cases c1005 : x18_1 < (t101.length : Int)
 {
 rw [if_pos c1005] at H
 have c1005b0 : decide (x18_1 < (t101.length : Int)) = true := decide_eq_true c1005
 clear c1005
 by_cases c1006 : ((rdOf ByteArray.empty t101 x18_1).size : Int) = 2
 {
 rw [if_pos c1006] at H
 have c1006b0 : (((rdOf ByteArray.empty t101 x18_1).size : Int) == 2) = true := beq_iff_eq.mpr c1006
 have c1006b1 : (((rdOf ByteArray.empty t101 x18_1).size : Int) != 2) = false := bne_eq_false_iff_eq.mpr c1006
 clear c1006
 by_cases c1007 : (rdOf ByteArray.empty t101 x18_1).size ≤ 9223372036854775807
 {
 rw [if_pos c1007] at H
 have LMc1007 := Aside0.mk c1007
 clear c1007
 obtain ⟨y105, hy105⟩ : ∃ y_ : List Int, y_ = (bytesOf (rdOf ByteArray.empty t101 x18_1)) := ⟨_, rfl⟩
 replace H : (impl_ReadMac.l1 k1 t101 x5_1 (t101.length : Int) x18_1 y105 (y105.length : Int) 0) = some (r1, r2) := by first | (rw [hy105]; with_reducible exact H) | (have H2_ := (Option.bind_some _ _).symm.trans H; rw [hy105]; with_reducible exact H2_) | (have H2_ := (Option.bind_some _ _).symm.trans H; with_reducible exact H2_) | with_reducible exact H | (rw [hy105]; exact H) | exact H
 have Ny105 := Aside0.mk hy105
 clear hy105
 have H' := Aside0.mk H
 clear H
 have p104 : 0 ≤ (x18_1 : Int) := of_decide_eq_true (by first | (with_reducible assumption) | assumption)
 have q104 : x18_1 < (t101.length : Int) := of_decide_eq_true (by first | (with_reducible assumption) | assumption)
 obtain ⟨ad104, e104, hx104_0⟩ := Kd.at_string (Kd.R_reads' HO_4.out).2.2 x18_1 p104 q104
 cases e104
 replace p104 := eq_true p104
 replace q104 := eq_true q104
 go_wp2_with (first | ((with_reducible refine gate_dst (N := 26) rfl ?_); refine C_conv 5 rfl 9 22 _ rfl (rdOf ByteArray.empty t101 x18_1) rfl Tryd.underlying9 Tryd.underlying22 Tryd.underlying5 y105 Ny105.out LMc1007.out ?_; intro adc109 ccv110 w2001 hC hl hb; have n0_ := Aside0.mk (Kd.R_below (Rh HO_4) hb); have n1_ := Aside0.mk (below_step wB hb); clear HO_4; clear HB; have HO_4 := n0_; have HB := n1_; clear n0_ n1_; have HRv108 := Aside0.mk hC; have HCv108 := Aside0.mk hl; clear hb hC hl))
 go_loopg [5, 28] k1 (fun kq v5 v28 w' => ∃ (x5_2 : Int) (x28_2 : Int), v5 = .int .i64 x5_2 ∧ v28 = .int .i64 x28_2 ∧ Aside0 (impl_ReadMac.l1 kq t101 x5_2 (t101.length : Int) x18_1 y105 (y105.length : Int) x28_2 = some (r1, r2)) ∧ Aside0 (kq ≤ k1) ∧ Aside0 (Kd.R Kd.string 9 w' w.heap.size (fun _ => True) (.slice (some ad104) t101.length co1002) t101) ∧ Aside0 (Kd.C (Kd.int .u8) w' (some adc109) y105.length y105) ∧ Aside0 (Below w.heap.size w w'))
 case atStart => exact ⟨(x5_1), (0), (by first | rfl | (simp; done) | (simp [*]; done)), (by first | rfl | (simp; done) | (simp [*]; done)), H', ⟨Nat.le_refl _⟩, ⟨Rh HO_4⟩, ⟨by repeat (first | (with_reducible exact HRv108.out) | (with_reducible refine Kd.C_alloc ?_ _) | (with_reducible refine Kd.C_drewN ?_ _) | (with_reducible refine Kd.C_drew ?_) | exact HRv108.out)⟩, ⟨wB⟩⟩
 case round => (
 clear H'
 try clear c3
 try clear c3b0
 try clear c3b1
 try clear p104
 try clear q104
 try clear hx104
 try clear c1003
 try clear c1003b0
 try clear c1004
 try clear c1004b0
 try clear c1005
 try clear c1005b0
 try clear c1006
 try clear c1006b0
 try clear c1006b1
 try clear c1007
 try clear hx104_0
 try clear p104
 try clear q104
 obtain ⟨x5_2, x28_2, rfl, rfl, HA, HK2, HO_4, HRv108, HB⟩ := hrel
 cases gk with
 | zero => exact absurd HA.out (by simp [impl_ReadMac.l1])
 | succ k2 => {
 have H := HA.out
 clear HA
 simp only [impl_ReadMac.l1] at H
 by_cases c2002 : x28_2 < (y105.length : Int)
 rw [if_pos c2002] at H
 have c2002b0 : decide (x28_2 < (y105.length : Int)) = true := decide_eq_true c2002
 clear c2002
 by_cases c2003 : 0 ≤ x28_2
 rw [if_pos c2003] at H
 have c2003b0 : decide (0 ≤ x28_2) = true := decide_eq_true c2003
 clear c2003
 by_cases c2004 : x28_2 < (y105.length : Int)
 rw [if_pos c2004] at H
 have c2004b0 : decide (x28_2 < (y105.length : Int)) = true := decide_eq_true c2004
 clear c2004
 replace H := Option.bind_eq_some_iff.mp H
 obtain ⟨t112, A20050, H⟩ := H
 replace H : (if t112 < 0 then (some (0, 6)) else (if t112 > 15 then (impl_ReadMac.l1 k2 t101 (Go.bits .or .i64 (wrap64 (x5_2 * 16)) (wrap64 (t112 - 6))) (t101.length : Int) x18_1 y105 (y105.length : Int) (wrap64 (x28_2 + 1))) else (impl_ReadMac.l1 k2 t101 (Go.bits .or .i64 (wrap64 (x5_2 * 16)) t112) (t101.length : Int) x18_1 y105 (y105.length : Int) (wrap64 (x28_2 + 1))))) = some (r1, r2) := H
 have A2005 := Aside0.mk A20050
 clear A20050
 by_cases c2006 : t112 < 0
 rw [if_pos c2006] at H
 have c2006b0 : decide (t112 < 0) = true := decide_eq_true c2006
 clear c2006
 simp only [Option.some.injEq, Prod.mk.injEq] at H
 obtain ⟨rfl, rfl⟩ := H
 rotate_left
 rw [if_neg c2006] at H
 have c2006b0 : decide (t112 < 0) = false := decide_eq_false c2006
 clear c2006
 by_cases c2007 : t112 > 15
 rw [if_pos c2007] at H
 have c2007b0 : decide (15 < t112) = true := decide_eq_true c2007
 clear c2007
 have H' := Aside0.mk H
 clear H
 rotate_left
 rw [if_neg c2007] at H
 have c2007b0 : decide (15 < t112) = false := decide_eq_false c2007
 clear c2007
 have H' := Aside0.mk H
 clear H
 rotate_left
 rw [if_neg c2004] at H
 exact absurd H (by simp)
 rw [if_neg c2003] at H
 exact absurd H (by simp)
 rw [if_neg c2002] at H
 have c2002b0 : decide (x28_2 < (y105.length : Int)) = false := decide_eq_false c2002
 clear c2002
 have H' := Aside0.mk H
 clear H
 rotate_left
 iterate 3 (
 focus (
 have p111 : 0 ≤ (x28_2 : Int) := of_decide_eq_true (by first | (with_reducible assumption) | assumption)
 have q111 : x28_2 < (y105.length : Int) := of_decide_eq_true (by first | (with_reducible assumption) | assumption)
 obtain ⟨ad111, e111, hx111_0⟩ := Kd.at_int (by repeat (first | (with_reducible exact HRv108.out) | (with_reducible refine Kd.C_alloc ?_ _) | (with_reducible refine Kd.C_drewN ?_ _) | (with_reducible refine Kd.C_drew ?_) | exact HRv108.out)) x28_2 p111 q111
 obtain rfl : adc109 = ad111 := (by injection e111)
 replace p111 := eq_true p111
 replace q111 := eq_true q111
 )
 rotate_left
 )
 rotate_right 3
 {
 (try clear HO_4)
 go_wp2_with (first | ((with_reducible refine gate_callee (f := 39) rfl ?_); refine goesL_ (some 33) rfl rfl Tryd.func39 (by kernel_rfl) rfl #[.string (⟨#[48, 49, 50, 51, 52, 53, 54, 55, 56, 57, 97, 98, 99, 100, 101, 102, 65, 66, 67, 68, 69, 70]⟩ : ByteArray), .int .u8 (rd y105 x28_2)] rfl wT ?_; (with_reducible refine (strings_IndexByte.calls (⟨#[48, 49, 50, 51, 52, 53, 54, 55, 56, 57, 97, 98, 99, 100, 101, 102, 65, 66, 67, 68, 69, 70]⟩ : ByteArray) (rd y105 x28_2) t112 _ A2005.out).mono ?_); rintro e w' ⟨rfl, ⟨nd, rfl⟩⟩; refine ⟨_, rfl, ?_⟩))
 go_ret2
 exact ⟨by first | rfl | (simp [errW_none, errW_some] <;> rfl) | (simp [*, errW_none, errW_some] <;> rfl), wB⟩
 }
 iterate 2 (
 focus (
 go_wp2_with (first | ((with_reducible refine gate_callee (f := 39) rfl ?_); refine goesL_ (some 33) rfl rfl Tryd.func39 (by kernel_rfl) rfl #[.string (⟨#[48, 49, 50, 51, 52, 53, 54, 55, 56, 57, 97, 98, 99, 100, 101, 102, 65, 66, 67, 68, 69, 70]⟩ : ByteArray), .int .u8 (rd y105 x28_2)] rfl wT ?_; (with_reducible refine (strings_IndexByte.calls (⟨#[48, 49, 50, 51, 52, 53, 54, 55, 56, 57, 97, 98, 99, 100, 101, 102, 65, 66, 67, 68, 69, 70]⟩ : ByteArray) (rd y105 x28_2) t112 _ A2005.out).mono ?_); rintro e w' ⟨rfl, ⟨nd, rfl⟩⟩; refine ⟨_, rfl, ?_⟩))
 go_roundg k2
 case measure => have := HK1.out; have := HK2.out; omega
 )
 rotate_left
 )
 rotate_right 2
 {
 case rel => exact ⟨(Go.bits .or .i64 (wrap64 (x5_2 * 16)) (wrap64 (t112 - 6))), (wrap64 (x28_2 + 1)), (by first | rfl | (simp; done) | (simp [*]; done)), (by first | rfl | (simp; done) | (simp [*]; done)), H', ⟨by have := HK1.out; have := HK2.out; omega⟩, ⟨Rh HO_4⟩, ⟨by repeat (first | (with_reducible exact HRv108.out) | (with_reducible refine Kd.C_alloc ?_ _) | (with_reducible refine Kd.C_drewN ?_ _) | (with_reducible refine Kd.C_drew ?_) | exact HRv108.out)⟩, ⟨wB⟩⟩
 }
 {
 case rel => exact ⟨(Go.bits .or .i64 (wrap64 (x5_2 * 16)) t112), (wrap64 (x28_2 + 1)), (by first | rfl | (simp; done) | (simp [*]; done)), (by first | rfl | (simp; done) | (simp [*]; done)), H', ⟨by have := HK1.out; have := HK2.out; omega⟩, ⟨Rh HO_4⟩, ⟨by repeat (first | (with_reducible exact HRv108.out) | (with_reducible refine Kd.C_alloc ?_ _) | (with_reducible refine Kd.C_drewN ?_ _) | (with_reducible refine Kd.C_drew ?_) | exact HRv108.out)⟩, ⟨wB⟩⟩
 }
 {
 go_wp2
 go_roundg k2
 case measure => have := HK1.out; have := HK2.out; omega
 case rel => exact ⟨(x5_2), (wrap64 (x18_1 + 1)), (by first | rfl | (simp; done) | (simp [*]; done)), (by first | rfl | (simp; done) | (simp [*]; done)), H', ⟨by have := HK1.out; have := HK2.out; omega⟩, ⟨Rh HO_4⟩, ⟨wB⟩⟩
 }
 }
 )
 }
 {
 rw [if_neg c1007] at H
 exact absurd H (by simp)
 }
 }
 {
 rw [if_neg c1006] at H
 have c1006b0 : (((rdOf ByteArray.empty t101 x18_1).size : Int) == 2) = false := beq_eq_false_iff_ne.mpr c1006
 have c1006b1 : (((rdOf ByteArray.empty t101 x18_1).size : Int) != 2) = true := bne_iff_ne.mpr c1006
 simp only [Option.some.injEq, Prod.mk.injEq] at H
 obtain ⟨rfl, rfl⟩ := H
 have p104 : 0 ≤ (x18_1 : Int) := of_decide_eq_true (by first | (with_reducible assumption) | assumption)
 have q104 : x18_1 < (t101.length : Int) := of_decide_eq_true (by first | (with_reducible assumption) | assumption)
 obtain ⟨ad104, e104, hx104_0⟩ := Kd.at_string (Kd.R_reads' HO_4.out).2.2 x18_1 p104 q104
 cases e104
 replace p104 := eq_true p104
 replace q104 := eq_true q104
 go_wp2
 go_ret2
 exact ⟨by first | rfl | (simp [errW_none, errW_some] <;> rfl) | (simp [*, errW_none, errW_some] <;> rfl), wB⟩
 }
 }
 {
 rw [if_neg c1005] at H
 exact absurd H (by simp)
 }
 }
 {
 rw [if_neg c1004] at H
 exact absurd H (by simp)
 }
 }
 {
 rw [if_neg c1003] at H
 have c1003b0 : decide (x18_1 < (t101.length : Int)) = false := decide_eq_false c1003
 clear c1003
 simp only [Option.some.injEq, Prod.mk.injEq] at H
 obtain ⟨rfl, rfl⟩ := H
 go_wp2
 go_ret2
 exact ⟨by first | rfl | (simp [errW_none, errW_some] <;> rfl) | (simp [*, errW_none, errW_some] <;> rfl), wB⟩
 }
 }
 )
 }
 {
 go_ret2
 exact ⟨by first | rfl | (simp [errW_none, errW_some] <;> rfl) | (simp [*, errW_none, errW_some] <;> rfl), wB⟩
 }

/-! ### spec_l02Hex: function 48 -/
mutual
def spec_l02Hex.j0 : Nat → Int → Bool → Option (Int)
  | 0, _, _ => none
  | k + 1, x0, x3 => if x3 = true then (some ((x0 - 48) % 256)) else (if x0 ≥ 97 then (spec_l02Hex.j1 k x0 (decide (x0 ≤ 102))) else (spec_l02Hex.j1 k x0 false))
def spec_l02Hex.j1 : Nat → Int → Bool → Option (Int)
  | 0, _, _ => none
  | k + 1, x0, x13 => if x13 = true then (some (((x0 - 97) % 256) + 10)) else (if x0 ≥ 65 then (if x0 ≤ 70 then (some (((x0 - 65) % 256) + 10)) else (some (-1))) else (some (-1)))
end
def spec_l02Hex.f (k : Nat) (a0 : Int) : Option (Int) := if a0 ≥ 48 then (spec_l02Hex.j0 k a0 (decide (a0 ≤ 57))) else (spec_l02Hex.j0 k a0 false)
theorem spec_l02Hex.mono_l : ∀ k, (∀ y0 y1, LeO (spec_l02Hex.j0 k y0 y1) (spec_l02Hex.j0 (k + 1) y0 y1)) ∧ (∀ y0 y1, LeO (spec_l02Hex.j1 k y0 y1) (spec_l02Hex.j1 (k + 1) y0 y1))
  | 0 => ⟨fun _ _ r h => by simp [spec_l02Hex.j0] at h, fun _ _ r h => by simp [spec_l02Hex.j1] at h⟩
  | k + 1 => by
    obtain ⟨ih0, ih1⟩ := spec_l02Hex.mono_l k
    refine ⟨?_, ?_⟩
    · intro y0 y1
      unfold spec_l02Hex.j0
      repeat' first
      | (with_reducible exact ih0 _ _)
      | (with_reducible exact ih1 _ _)
      | (with_reducible exact LeO.refl _)
      | (with_reducible exact LeO.none _)
      | (with_reducible refine LeO.ite ?_ ?_)
      | (with_reducible refine LeO.bind ?_ (fun _ => ?_))
      | exact ih0 _ _
      | exact ih1 _ _
      | exact LeO.none _
      | refine LeO.ite ?_ ?_
      | refine LeO.bind ?_ (fun _ => ?_)
    · intro y0 y1
      unfold spec_l02Hex.j1
      repeat' first
      | (with_reducible exact ih0 _ _)
      | (with_reducible exact ih1 _ _)
      | (with_reducible exact LeO.refl _)
      | (with_reducible exact LeO.none _)
      | (with_reducible refine LeO.ite ?_ ?_)
      | (with_reducible refine LeO.bind ?_ (fun _ => ?_))
      | exact ih0 _ _
      | exact ih1 _ _
      | exact LeO.none _
      | refine LeO.ite ?_ ?_
      | refine LeO.bind ?_ (fun _ => ?_)
theorem spec_l02Hex.mono : ∀ a0 k, LeO (spec_l02Hex.f k a0) (spec_l02Hex.f (k + 1) a0) := by
  intro a0 k
  obtain ⟨ih0, ih1⟩ := spec_l02Hex.mono_l k
  unfold spec_l02Hex.f
  repeat' first
      | (with_reducible exact ih0 _ _)
      | (with_reducible exact ih1 _ _)
      | (with_reducible exact LeO.refl _)
      | (with_reducible exact LeO.none _)
      | (with_reducible refine LeO.ite ?_ ?_)
      | (with_reducible refine LeO.bind ?_ (fun _ => ?_))
      | exact ih0 _ _
      | exact ih1 _ _
      | exact LeO.none _
      | refine LeO.ite ?_ ?_
      | refine LeO.bind ?_ (fun _ => ?_)
set_option maxHeartbeats 60000000 in
set_option maxRecDepth 100000 in
theorem spec_l02Hex.calls (k : Nat) (a0 : Int) (r : Int) (w : World) (h : spec_l02Hex.f k a0 = some r) :
    Calls Tryd.prog 48 #[.int .u8 a0] w fun e w' => e = .returned (.int .i64 r) ∧ Drawn0 w w' := by
  have H : (if a0 ≥ 48 then (spec_l02Hex.j0 k a0 (decide (a0 ≤ 57))) else (spec_l02Hex.j0 k a0 false)) = some r := h
  clear h
  have HC2 := Aside0.mk H
  clear H
  go_enter Tryd.func48, Tryd.ntmps48
  go_upto_region 1 with (fail)
  go_cut [3] (fun v3 wc => ∃ (kq : Nat) (x3_1 : Bool), v3 = .bool x3_1 ∧ Aside0 (spec_l02Hex.j0 kq a0 x3_1 = some r) ∧ Aside0 (kq ≤ k) ∧ Drawn0 w wc)
  case first =>
    have H := HC2.out
    clear HC2
    by_cases c1001 : a0 ≥ 48
    · rw [if_pos c1001] at H
      have c1001b0 : decide (48 ≤ a0) = true := decide_eq_true c1001
      clear c1001
      (first | rw [c1001b0] | (simp only [i64_w, i32_w]; rw [c1001b0]) | skip)
      have H' := Aside0.mk H
      clear H
      go_wp2
      go_meet
      case rel => exact ⟨_, (decide (a0 ≤ 57)), (by first | rfl | (simp; done) | (simp [*]; done)), H', ⟨by first | omega | exact Nat.le_refl _⟩, by repeat (first | exact Drawn0.refl _ | apply Drawn0.step)⟩
    · rw [if_neg c1001] at H
      have c1001b0 : decide (48 ≤ a0) = false := decide_eq_false c1001
      clear c1001
      (first | rw [c1001b0] | (simp only [i64_w, i32_w]; rw [c1001b0]) | skip)
      have H' := Aside0.mk H
      clear H
      go_wp2
      go_meet
      case rel => exact ⟨_, (false), (by first | rfl | (simp; done) | (simp [*]; done)), H', ⟨by first | omega | exact Nat.le_refl _⟩, by repeat (first | exact Drawn0.refl _ | apply Drawn0.step)⟩
  case rest =>
    clear HC2
    try clear c1001
    try clear c1001b0
    obtain ⟨kq, x3_1, rfl, HA, HJ1, ⟨mc1, rfl⟩⟩ := hcut
    cases kq with
    | zero => exact absurd HA.out (by simp [spec_l02Hex.j0])
    | succ kj1 =>
      have H := HA.out
      clear HA
      simp only [spec_l02Hex.j0] at H
      by_cases c1002 : x3_1 = true
      · subst c1002
        have H1 : (some ((a0 - 48) % 256)) = some r := by rw [if_pos rfl] at H; exact H
        clear H
        have H := H1
        clear H1
        obtain rfl := Option.some.inj H
        go_wp2
        go_ret
        exact ⟨by first | rfl | (simp; done) | (simp [*]; done), by repeat (first | exact Drawn0.refl _ | apply Drawn0.step)⟩
      · replace c1002 := Bool.eq_false_iff.mpr c1002
        subst c1002
        have H1 : (if a0 ≥ 97 then (spec_l02Hex.j1 kj1 a0 (decide (a0 ≤ 102))) else (spec_l02Hex.j1 kj1 a0 false)) = some r := by rw [if_neg (show ¬ (false = true) by decide)] at H; exact H
        clear H
        have H := H1
        clear H1
        have HC1003 := Aside0.mk H
        clear H
        go_upto_region 3 with (fail)
        go_cut [13] (fun v13 wc => ∃ (kq : Nat) (x13_1002 : Bool), v13 = .bool x13_1002 ∧ Aside0 (spec_l02Hex.j1 kq a0 x13_1002 = some r) ∧ Aside0 (kq ≤ kj1) ∧ Drawn0 w wc)
        case first =>
          have H := HC1003.out
          clear HC1003
          by_cases c2001 : a0 ≥ 97
          · rw [if_pos c2001] at H
            have c2001b0 : decide (97 ≤ a0) = true := decide_eq_true c2001
            clear c2001
            (first | rw [c2001b0] | (simp only [i64_w, i32_w]; rw [c2001b0]) | skip)
            have H' := Aside0.mk H
            clear H
            go_wp2
            go_meet
            case rel => exact ⟨_, (decide (a0 ≤ 102)), (by first | rfl | (simp; done) | (simp [*]; done)), H', ⟨by have := HJ1.out; first | omega | exact Nat.le_refl _⟩, by repeat (first | exact Drawn0.refl _ | apply Drawn0.step)⟩
          · rw [if_neg c2001] at H
            have c2001b0 : decide (97 ≤ a0) = false := decide_eq_false c2001
            clear c2001
            (first | rw [c2001b0] | (simp only [i64_w, i32_w]; rw [c2001b0]) | skip)
            have H' := Aside0.mk H
            clear H
            go_wp2
            go_meet
            case rel => exact ⟨_, (false), (by first | rfl | (simp; done) | (simp [*]; done)), H', ⟨by have := HJ1.out; first | omega | exact Nat.le_refl _⟩, by repeat (first | exact Drawn0.refl _ | apply Drawn0.step)⟩
        case rest =>
          clear HC1003
          try clear c1001
          try clear c1001b0
          try clear c1002
          try clear c2001
          try clear c2001b0
          obtain ⟨kq, x13_1002, rfl, HA, HJ1002, ⟨mc1002, rfl⟩⟩ := hcut
          cases kq with
          | zero => exact absurd HA.out (by simp [spec_l02Hex.j1])
          | succ kj1002 =>
            have H := HA.out
            clear HA
            simp only [spec_l02Hex.j1] at H
            by_cases c2002 : x13_1002 = true
            · subst c2002
              have H1 : (some (((a0 - 97) % 256) + 10)) = some r := by rw [if_pos rfl] at H; exact H
              clear H
              have H := H1
              clear H1
              obtain rfl := Option.some.inj H
              go_wp2
              go_ret
              exact ⟨by first | rfl | (simp; done) | (simp [*]; done), by repeat (first | exact Drawn0.refl _ | apply Drawn0.step)⟩
            · replace c2002 := Bool.eq_false_iff.mpr c2002
              subst c2002
              have H1 : (if a0 ≥ 65 then (if a0 ≤ 70 then (some (((a0 - 65) % 256) + 10)) else (some (-1))) else (some (-1))) = some r := by rw [if_neg (show ¬ (false = true) by decide)] at H; exact H
              clear H
              have H := H1
              clear H1
              by_cases c2003 : a0 ≥ 65
              · rw [if_pos c2003] at H
                have c2003b0 : decide (65 ≤ a0) = true := decide_eq_true c2003
                clear c2003
                by_cases c2004 : a0 ≤ 70
                · rw [if_pos c2004] at H
                  have c2004b0 : decide (a0 ≤ 70) = true := decide_eq_true c2004
                  clear c2004
                  obtain rfl := Option.some.inj H
                  go_wp2
                  go_ret
                  exact ⟨by first | rfl | (simp; done) | (simp [*]; done), by repeat (first | exact Drawn0.refl _ | apply Drawn0.step)⟩
                · rw [if_neg c2004] at H
                  have c2004b0 : decide (a0 ≤ 70) = false := decide_eq_false c2004
                  clear c2004
                  obtain rfl := Option.some.inj H
                  go_wp2
                  go_ret
                  exact ⟨by first | rfl | (simp; done) | (simp [*]; done), by repeat (first | exact Drawn0.refl _ | apply Drawn0.step)⟩
              · rw [if_neg c2003] at H
                have c2003b0 : decide (65 ≤ a0) = false := decide_eq_false c2003
                clear c2003
                obtain rfl := Option.some.inj H
                go_wp2
                go_ret
                exact ⟨by first | rfl | (simp; done) | (simp [*]; done), by repeat (first | exact Drawn0.refl _ | apply Drawn0.step)⟩

/-! ### spec_ReadMac: function 21 -/
def spec_ReadMac.l0 : Nat → ByteArray → Int → Int → Option (Int × Int)
  | 0, _, _, _ => none
  | k + 1, x0, x4, x5 => if x5 < 17 then (if (Int.tmod x5 3) = 2 then (if 0 ≤ x5 then (if x5 < (x0.size : Int) then (if (bt x0 x5) = 58 then (spec_ReadMac.l0 k x0 x4 (wrap64 (x5 + 1))) else (some (0, 6))) else (none)) else (none)) else (if 0 ≤ x5 then (if x5 < (x0.size : Int) then ((spec_l02Hex.f k (bt x0 x5)).bind fun t113 => (if t113 < 0 then (some (0, 6)) else (spec_ReadMac.l0 k x0 (wrap64 ((wrap64 (x4 * 16)) + t113)) (wrap64 (x5 + 1))))) else (none)) else (none))) else (some (x4, 0))
def spec_ReadMac.f (k : Nat) (a0 : ByteArray) : Option (Int × Int) := if (a0.size : Int) = 17 then (spec_ReadMac.l0 k a0 0 0) else (some (0, 6))
theorem spec_ReadMac.mono_l : ∀ k, (∀ y0 y1 y2, LeO (spec_ReadMac.l0 k y0 y1 y2) (spec_ReadMac.l0 (k + 1) y0 y1 y2))
  | 0 => fun _ _ _ r h => by simp [spec_ReadMac.l0] at h
  | k + 1 => by
    have ih0 := spec_ReadMac.mono_l k
    · intro y0 y1 y2
      unfold spec_ReadMac.l0
      repeat' first
      | (with_reducible exact ih0 _ _ _)
      | (with_reducible exact spec_l02Hex.mono _ _)
      | (with_reducible exact LeO.refl _)
      | (with_reducible exact LeO.none _)
      | (with_reducible refine LeO.ite ?_ ?_)
      | (with_reducible refine LeO.bind ?_ (fun _ => ?_))
      | exact ih0 _ _ _
      | exact spec_l02Hex.mono _ _
      | exact LeO.none _
      | refine LeO.ite ?_ ?_
      | refine LeO.bind ?_ (fun _ => ?_)
theorem spec_ReadMac.mono : ∀ a0 k, LeO (spec_ReadMac.f k a0) (spec_ReadMac.f (k + 1) a0) := by
  intro a0 k
  have ih0 := spec_ReadMac.mono_l k
  unfold spec_ReadMac.f
  repeat' first
      | (with_reducible exact ih0 _ _ _)
      | (with_reducible exact spec_l02Hex.mono _ _)
      | (with_reducible exact LeO.refl _)
      | (with_reducible exact LeO.none _)
      | (with_reducible refine LeO.ite ?_ ?_)
      | (with_reducible refine LeO.bind ?_ (fun _ => ?_))
      | exact ih0 _ _ _
      | exact spec_l02Hex.mono _ _
      | exact LeO.none _
      | refine LeO.ite ?_ ?_
      | refine LeO.bind ?_ (fun _ => ?_)
set_option maxHeartbeats 60000000 in
set_option maxRecDepth 100000 in
theorem spec_ReadMac.calls (k : Nat) (a0 : ByteArray) (r1 : Int) (r2 : Int) (w : World) (h : spec_ReadMac.f k a0 = some (r1, r2)) :
    Calls Tryd.prog 21 #[.string a0] w fun e w' => e = .returned (.tuple #[.int .i64 r1, .int .i64 r2]) ∧ Drawn0 w w' := by
  have H : (if (a0.size : Int) = 17 then (spec_ReadMac.l0 k a0 0 0) else (some (0, 6))) = some (r1, r2) := h
  clear h
  by_cases c2 : (a0.size : Int) = 17
  · rw [if_pos c2] at H
    have c2b0 : ((a0.size : Int) == 17) = true := beq_iff_eq.mpr c2
    have c2b1 : ((a0.size : Int) != 17) = false := bne_eq_false_iff_eq.mpr c2
    clear c2
    have H' := Aside0.mk H
    clear H
    go_enter Tryd.func21, Tryd.ntmps21
    go_wp2
    go_loopg [4, 5] k (fun kq v4 v5 w' => ∃ (x4_1 : Int) (x5_1 : Int), v4 = .int .i64 x4_1 ∧ v5 = .int .i64 x5_1 ∧ Aside0 (spec_ReadMac.l0 kq a0 x4_1 x5_1 = some (r1, r2)) ∧ Aside0 (kq ≤ k) ∧ Drawn0 w w')
    case atStart => exact ⟨(0), (0), (by first | rfl | (simp; done) | (simp [*]; done)), (by first | rfl | (simp; done) | (simp [*]; done)), H', ⟨Nat.le_refl _⟩, by repeat (first | exact Drawn0.refl _ | apply Drawn0.step)⟩
    case round =>
      clear H'
      try clear c2
      try clear c2b0
      try clear c2b1
      try clear p2
      obtain ⟨x4_1, x5_1, rfl, rfl, HA, HK1, ⟨m1, rfl⟩⟩ := hrel
      cases gk with
      | zero => exact absurd HA.out (by simp [spec_ReadMac.l0])
      | succ k1 =>
        have H := HA.out
        clear HA
        simp only [spec_ReadMac.l0] at H
        by_cases c1001 : x5_1 < 17
        · rw [if_pos c1001] at H
          have c1001b0 : decide (x5_1 < 17) = true := decide_eq_true c1001
          clear c1001
          by_cases c1002 : (Int.tmod x5_1 3) = 2
          · rw [if_pos c1002] at H
            have c1002b0 : ((Int.tmod x5_1 3) == 2) = true := beq_iff_eq.mpr c1002
            have c1002b1 : ((Int.tmod x5_1 3) != 2) = false := bne_eq_false_iff_eq.mpr c1002
            clear c1002
            by_cases c1003 : 0 ≤ x5_1
            · rw [if_pos c1003] at H
              have c1003b0 : decide (0 ≤ x5_1) = true := decide_eq_true c1003
              clear c1003
              by_cases c1004 : x5_1 < (a0.size : Int)
              · rw [if_pos c1004] at H
                have c1004b0 : decide (x5_1 < (a0.size : Int)) = true := decide_eq_true c1004
                clear c1004
                by_cases c1006 : (bt a0 x5_1) = 58
                · rw [if_pos c1006] at H
                  have c1006b0 : ((bt a0 x5_1) == 58) = true := beq_iff_eq.mpr c1006
                  have c1006b1 : ((bt a0 x5_1) != 58) = false := bne_eq_false_iff_eq.mpr c1006
                  clear c1006
                  have H' := Aside0.mk H
                  clear H
                  have p1005 : 0 ≤ (x5_1 : Int) := of_decide_eq_true (by first | (with_reducible assumption) | assumption)
                  have q1005 : x5_1 < (a0.size : Int) := of_decide_eq_true (by first | (with_reducible assumption) | assumption)
                  have hx1005 := bt_at a0 x5_1
                  replace p1005 := eq_true p1005
                  replace q1005 := eq_true q1005
                  go_wp2
                  go_roundg k1
                  case measure => have := HK1.out; omega
                  case rel => exact ⟨(x4_1), (wrap64 (x5_1 + 1)), (by first | rfl | (simp; done) | (simp [*]; done)), (by first | rfl | (simp; done) | (simp [*]; done)), H', ⟨by have := HK1.out; omega⟩, by repeat (first | exact Drawn0.refl _ | apply Drawn0.step)⟩
                · rw [if_neg c1006] at H
                  have c1006b0 : ((bt a0 x5_1) == 58) = false := beq_eq_false_iff_ne.mpr c1006
                  have c1006b1 : ((bt a0 x5_1) != 58) = true := bne_iff_ne.mpr c1006
                  simp only [Option.some.injEq, Prod.mk.injEq] at H
                  obtain ⟨rfl, rfl⟩ := H
                  have p1005 : 0 ≤ (x5_1 : Int) := of_decide_eq_true (by first | (with_reducible assumption) | assumption)
                  have q1005 : x5_1 < (a0.size : Int) := of_decide_eq_true (by first | (with_reducible assumption) | assumption)
                  have hx1005 := bt_at a0 x5_1
                  replace p1005 := eq_true p1005
                  replace q1005 := eq_true q1005
                  go_wp2
                  go_ret2
                  exact ⟨by first | rfl | (simp; done) | (simp [*]; done), by repeat (first | exact Drawn0.refl _ | apply Drawn0.step)⟩
              · rw [if_neg c1004] at H
                exact absurd H (by simp)
            · rw [if_neg c1003] at H
              exact absurd H (by simp)
          · rw [if_neg c1002] at H
            have c1002b0 : ((Int.tmod x5_1 3) == 2) = false := beq_eq_false_iff_ne.mpr c1002
            have c1002b1 : ((Int.tmod x5_1 3) != 2) = true := bne_iff_ne.mpr c1002
            by_cases c1007 : 0 ≤ x5_1
            · rw [if_pos c1007] at H
              have c1007b0 : decide (0 ≤ x5_1) = true := decide_eq_true c1007
              clear c1007
              by_cases c1008 : x5_1 < (a0.size : Int)
              · rw [if_pos c1008] at H
                have c1008b0 : decide (x5_1 < (a0.size : Int)) = true := decide_eq_true c1008
                clear c1008
                replace H := Option.bind_eq_some_iff.mp H
                obtain ⟨t113, A10100, H⟩ := H
                replace H : (if t113 < 0 then (some (0, 6)) else (spec_ReadMac.l0 k1 a0 (wrap64 ((wrap64 (x4_1 * 16)) + t113)) (wrap64 (x5_1 + 1)))) = some (r1, r2) := H
                have A1010 := Aside0.mk A10100
                clear A10100
                by_cases c1011 : t113 < 0
                · rw [if_pos c1011] at H
                  have c1011b0 : decide (t113 < 0) = true := decide_eq_true c1011
                  clear c1011
                  simp only [Option.some.injEq, Prod.mk.injEq] at H
                  obtain ⟨rfl, rfl⟩ := H
                  have p1009 : 0 ≤ (x5_1 : Int) := of_decide_eq_true (by first | (with_reducible assumption) | assumption)
                  have q1009 : x5_1 < (a0.size : Int) := of_decide_eq_true (by first | (with_reducible assumption) | assumption)
                  have hx1009 := bt_at a0 x5_1
                  replace p1009 := eq_true p1009
                  replace q1009 := eq_true q1009
                  go_wp2_with (first | ((with_reducible refine gate_callee (f := 48) rfl ?_); refine goesL_ (some 24) rfl rfl Tryd.func48 (by kernel_rfl) rfl #[.int .u8 (bt a0 x5_1)] rfl wT ?_; (with_reducible refine (spec_l02Hex.calls k1 (bt a0 x5_1) t113 _ A1010.out).mono ?_); rintro e w' ⟨rfl, ⟨nd, rfl⟩⟩; refine ⟨_, rfl, ?_⟩))
                  go_ret2
                  exact ⟨by first | rfl | (simp; done) | (simp [*]; done), by repeat (first | exact Drawn0.refl _ | apply Drawn0.step)⟩
                · rw [if_neg c1011] at H
                  have c1011b0 : decide (t113 < 0) = false := decide_eq_false c1011
                  clear c1011
                  have H' := Aside0.mk H
                  clear H
                  have p1009 : 0 ≤ (x5_1 : Int) := of_decide_eq_true (by first | (with_reducible assumption) | assumption)
                  have q1009 : x5_1 < (a0.size : Int) := of_decide_eq_true (by first | (with_reducible assumption) | assumption)
                  have hx1009 := bt_at a0 x5_1
                  replace p1009 := eq_true p1009
                  replace q1009 := eq_true q1009
                  go_wp2_with (first | ((with_reducible refine gate_callee (f := 48) rfl ?_); refine goesL_ (some 24) rfl rfl Tryd.func48 (by kernel_rfl) rfl #[.int .u8 (bt a0 x5_1)] rfl wT ?_; (with_reducible refine (spec_l02Hex.calls k1 (bt a0 x5_1) t113 _ A1010.out).mono ?_); rintro e w' ⟨rfl, ⟨nd, rfl⟩⟩; refine ⟨_, rfl, ?_⟩))
                  go_roundg k1
                  case measure => have := HK1.out; omega
                  case rel => exact ⟨(wrap64 ((wrap64 (x4_1 * 16)) + t113)), (wrap64 (x5_1 + 1)), (by first | rfl | (simp; done) | (simp [*]; done)), (by first | rfl | (simp; done) | (simp [*]; done)), H', ⟨by have := HK1.out; omega⟩, by repeat (first | exact Drawn0.refl _ | apply Drawn0.step)⟩
              · rw [if_neg c1008] at H
                exact absurd H (by simp)
            · rw [if_neg c1007] at H
              exact absurd H (by simp)
        · rw [if_neg c1001] at H
          have c1001b0 : decide (x5_1 < 17) = false := decide_eq_false c1001
          clear c1001
          simp only [Option.some.injEq, Prod.mk.injEq] at H
          obtain ⟨rfl, rfl⟩ := H
          go_wp2
          go_ret2
          exact ⟨by first | rfl | (simp; done) | (simp [*]; done), by repeat (first | exact Drawn0.refl _ | apply Drawn0.step)⟩
  · rw [if_neg c2] at H
    have c2b0 : ((a0.size : Int) == 17) = false := beq_eq_false_iff_ne.mpr c2
    have c2b1 : ((a0.size : Int) != 17) = true := bne_iff_ne.mpr c2
    simp only [Option.some.injEq, Prod.mk.injEq] at H
    obtain ⟨rfl, rfl⟩ := H
    go_enter Tryd.func21, Tryd.ntmps21
    go_wp2
    go_ret2
    exact ⟨by first | rfl | (simp; done) | (simp [*]; done), by repeat (first | exact Drawn0.refl _ | apply Drawn0.step)⟩

/-! ### laws_FnExactReadMac: function 4 -/
def laws_FnExactReadMac.f (k : Nat) (a0 : ByteArray) : Option (Bool) := if (a0.size : Int) > 1048576 then (some true) else ((spec_ReadMac.f k a0).bind fun bt114 => ((impl_ReadMac.f k a0).bind fun bt116 => (if bt116.1 = bt114.1 then (if bt116.2 = bt114.2 then (some true) else (some false)) else (some false))))
theorem laws_FnExactReadMac.mono : ∀ a0 k, LeO (laws_FnExactReadMac.f k a0) (laws_FnExactReadMac.f (k + 1) a0) := by
  intro a0 k
  unfold laws_FnExactReadMac.f
  repeat' first
      | (with_reducible exact impl_ReadMac.mono _ _)
      | (with_reducible exact spec_ReadMac.mono _ _)
      | (with_reducible exact LeO.refl _)
      | (with_reducible exact LeO.none _)
      | (with_reducible refine LeO.ite ?_ ?_)
      | (with_reducible refine LeO.bind ?_ (fun _ => ?_))
      | exact impl_ReadMac.mono _ _
      | exact spec_ReadMac.mono _ _
      | exact LeO.none _
      | refine LeO.ite ?_ ?_
      | refine LeO.bind ?_ (fun _ => ?_)
set_option maxHeartbeats 60000000 in
set_option maxRecDepth 100000 in
theorem laws_FnExactReadMac.calls (k : Nat) (a0 : ByteArray) (r : Bool) (w : World) (hd : Door w) (h : laws_FnExactReadMac.f k a0 = some r) :
    Calls Tryd.prog 4 #[.string a0] w fun e w' => e = .returned (.bool r) ∧ Below w.heap.size w w' := by
  have HD := Aside0.mk hd
  clear hd
  have HB := Aside0.mk (Below.refl w.heap.size w)
  have H : (if (a0.size : Int) > 1048576 then (some true) else ((spec_ReadMac.f k a0).bind fun bt114 => ((impl_ReadMac.f k a0).bind fun bt116 => (if bt116.1 = bt114.1 then (if bt116.2 = bt114.2 then (some true) else (some false)) else (some false))))) = some r := h
  clear h
  by_cases c2 : (a0.size : Int) > 1048576
  · rw [if_pos c2] at H
    have c2b0 : decide (1048576 < (a0.size : Int)) = true := decide_eq_true c2
    have c2b1 : decide (1048576 < a0.size) = true := decide_eq_true (by omega)
    clear c2
    obtain rfl := Option.some.inj H
    go_enter Tryd.func4, Tryd.ntmps4
    go_wp2
    go_ret
    exact ⟨by first | rfl | (simp [errW_none, errW_some] <;> rfl) | (simp [*, errW_none, errW_some] <;> rfl), wB⟩
  · rw [if_neg c2] at H
    have c2b0 : decide (1048576 < (a0.size : Int)) = false := decide_eq_false c2
    have c2b1 : decide (1048576 < a0.size) = false := decide_eq_false (by omega)
    clear c2
    replace H := Option.bind_eq_some_iff.mp H
    obtain ⟨⟨t114, t115⟩, A30, H⟩ := H
    replace H : ((impl_ReadMac.f k a0).bind fun bt116 => (if bt116.1 = t114 then (if bt116.2 = t115 then (some true) else (some false)) else (some false))) = some r := H
    have A3 := Aside0.mk A30
    clear A30
    replace H := Option.bind_eq_some_iff.mp H
    obtain ⟨⟨t116, t117⟩, A40, H⟩ := H
    replace H : (if t116 = t114 then (if t117 = t115 then (some true) else (some false)) else (some false)) = some r := H
    have A4 := Aside0.mk A40
    clear A40
    by_cases c5 : t116 = t114
    · rw [if_pos c5] at H
      have c5b0 : (t116 == t114) = true := beq_iff_eq.mpr c5
      have c5b1 : (t116 != t114) = false := bne_eq_false_iff_eq.mpr c5
      clear c5
      by_cases c6 : t117 = t115
      · rw [if_pos c6] at H
        have c6b0 : (t117 == t115) = true := beq_iff_eq.mpr c6
        have c6b1 : (t117 != t115) = false := bne_eq_false_iff_eq.mpr c6
        clear c6
        obtain rfl := Option.some.inj H
        go_enter Tryd.func4, Tryd.ntmps4
        go_wp2_with (first | ((with_reducible refine gate_callee (f := 21) rfl ?_); refine goesL_ (some 12) rfl rfl Tryd.func21 (by kernel_rfl) rfl #[.string a0] rfl wT ?_; (with_reducible refine (spec_ReadMac.calls k a0 t114 t115 _ A3.out).mono ?_); rintro e w' ⟨rfl, ⟨nd, rfl⟩⟩; refine ⟨_, rfl, ?_⟩) | ((with_reducible refine gate_callee (f := 16) rfl ?_); refine goesL_ (some 17) rfl rfl Tryd.func16 (by kernel_rfl) rfl #[.string a0] rfl wT ?_; (with_reducible refine (impl_ReadMac.calls k a0 t116 t117 _ ?side1 A4.out).mono ?_); (case side1 => repeat (first | exact HD.out | (with_reducible refine Door.c_alloc ?_ _) | (with_reducible refine Door.c_drewN ?_ _) | (with_reducible refine Door.c_drew ?_))); rintro e w1001 ⟨rfl, hb⟩; refine ⟨_, rfl, ?_⟩; have n0_ := Aside0.mk (below_step wB hb); clear HB; have HB := n0_; clear n0_; (try clear hb); (try clear hb2); (try clear hk); (try clear hi)))
        go_ret
        exact ⟨by first | rfl | (simp [errW_none, errW_some] <;> rfl) | (simp [*, errW_none, errW_some] <;> rfl), wB⟩
      · rw [if_neg c6] at H
        have c6b0 : (t117 == t115) = false := beq_eq_false_iff_ne.mpr c6
        have c6b1 : (t117 != t115) = true := bne_iff_ne.mpr c6
        obtain rfl := Option.some.inj H
        go_enter Tryd.func4, Tryd.ntmps4
        go_wp2_with (first | ((with_reducible refine gate_callee (f := 21) rfl ?_); refine goesL_ (some 12) rfl rfl Tryd.func21 (by kernel_rfl) rfl #[.string a0] rfl wT ?_; (with_reducible refine (spec_ReadMac.calls k a0 t114 t115 _ A3.out).mono ?_); rintro e w' ⟨rfl, ⟨nd, rfl⟩⟩; refine ⟨_, rfl, ?_⟩) | ((with_reducible refine gate_callee (f := 16) rfl ?_); refine goesL_ (some 17) rfl rfl Tryd.func16 (by kernel_rfl) rfl #[.string a0] rfl wT ?_; (with_reducible refine (impl_ReadMac.calls k a0 t116 t117 _ ?side1 A4.out).mono ?_); (case side1 => repeat (first | exact HD.out | (with_reducible refine Door.c_alloc ?_ _) | (with_reducible refine Door.c_drewN ?_ _) | (with_reducible refine Door.c_drew ?_))); rintro e w1001 ⟨rfl, hb⟩; refine ⟨_, rfl, ?_⟩; have n0_ := Aside0.mk (below_step wB hb); clear HB; have HB := n0_; clear n0_; (try clear hb); (try clear hb2); (try clear hk); (try clear hi)))
        go_ret
        exact ⟨by first | rfl | (simp [errW_none, errW_some] <;> rfl) | (simp [*, errW_none, errW_some] <;> rfl), wB⟩
    · rw [if_neg c5] at H
      have c5b0 : (t116 == t114) = false := beq_eq_false_iff_ne.mpr c5
      have c5b1 : (t116 != t114) = true := bne_iff_ne.mpr c5
      obtain rfl := Option.some.inj H
      go_enter Tryd.func4, Tryd.ntmps4
      go_wp2_with (first | ((with_reducible refine gate_callee (f := 21) rfl ?_); refine goesL_ (some 12) rfl rfl Tryd.func21 (by kernel_rfl) rfl #[.string a0] rfl wT ?_; (with_reducible refine (spec_ReadMac.calls k a0 t114 t115 _ A3.out).mono ?_); rintro e w' ⟨rfl, ⟨nd, rfl⟩⟩; refine ⟨_, rfl, ?_⟩) | ((with_reducible refine gate_callee (f := 16) rfl ?_); refine goesL_ (some 17) rfl rfl Tryd.func16 (by kernel_rfl) rfl #[.string a0] rfl wT ?_; (with_reducible refine (impl_ReadMac.calls k a0 t116 t117 _ ?side1 A4.out).mono ?_); (case side1 => repeat (first | exact HD.out | (with_reducible refine Door.c_alloc ?_ _) | (with_reducible refine Door.c_drewN ?_ _) | (with_reducible refine Door.c_drew ?_))); rintro e w1001 ⟨rfl, hb⟩; refine ⟨_, rfl, ?_⟩; have n0_ := Aside0.mk (below_step wB hb); clear HB; have HB := n0_; clear n0_; (try clear hb); (try clear hb2); (try clear hk); (try clear hi)))
      go_ret
      exact ⟨by first | rfl | (simp [errW_none, errW_some] <;> rfl) | (simp [*, errW_none, errW_some] <;> rfl), wB⟩

/-- THE ONE PURE STATEMENT of laws_FnExactReadMac: yours. -/
def laws_FnExactReadMac.Pure : Prop := ∀ (a0 : ByteArray), a0.size ≤ 140737488351232 → ∃ k, laws_FnExactReadMac.f k a0 = some true
theorem laws_FnExactReadMac.walk (P : laws_FnExactReadMac.Pure) (a0 : ByteArray) (w : World) (w0 : a0.size ≤ 140737488351232) (hdoor : Door w) :
    Calls Tryd.prog 4 #[.string a0] w fun e w' => e = .returned (.bool true) ∧ Below w.heap.size w w' := by
  obtain ⟨k, h⟩ := P a0 w0
  refine (laws_FnExactReadMac.calls k a0 true w hdoor h).mono ?_
  rintro e w' ⟨rfl, hd⟩
  exact ⟨rfl, hd⟩

end Go.Proofs.YtnnplkhjmdbmbaaDoor.PFnExactReadMac
