-- Written for this claim by a program of this session (wip/mkprint.py: the print, turned at a few places). Not trusted: Lean checks it.
import Derived.Test.YtfllcmeakcbiaaaPFnExactDecodeSegmentx0
import Derived.Test.YtfllcmeakcbiaaaPFnExactDecodeSegmentx5
namespace Go.Proofs.Ytfllcmeakcbiaaa.PFnExactDecodeSegment
open Go.RowKit Go.Proofs.YtfllcmeakcbiaaaW.PrintWords Go.Proofs.YtfllcmeakcbiaaaW.PrintLast Go.Proofs.YtfllcmeakcbiaaaW.PrintMore
attribute [local go_sem] max2_int min2_int max_two min_two max_three min_three max_four min_four   -- for this text's walks alone
set_option linter.unusedVariables false
set_option linter.unusedSimpArgs false

/-! ### impl_DecodeSegment: function 7 -/
/-! ### impl_DecodeSegment: function 7, walked by hand -/
def impl_DecodeSegment.sacks : Nat → Int → List (S60) → List Int → Option (List (S60))
  | 0, _, _, _ => none
  | k + 1, i, s, v => if i < (v.length : Int) then (if (s.length : Int) < 3 then (if 0 ≤ i then (if i ≤ wrap64 (i + 4) then (if wrap64 (i + 4) ≤ wrap64 (i + 8) then (if wrap64 (i + 8) ≤ (v.length : Int) then ((impl_get.f k ((v.take (wrap64 (i + 4)).toNat).drop i.toNat)).bind fun p => ((impl_get.f k ((v.take (wrap64 (i + 8)).toNat).drop (wrap64 (i + 4)).toNat)).bind fun q => (impl_DecodeSegment.sacks k (wrap64 (i + 8)) (s ++ [(⟨p, q⟩ : S60)]) v))) else none) else none) else none) else none) else some s) else some s
def impl_DecodeSegment.opt (k : Nat) (x0 : Int) (x1 : Int) (x2 : Int) (x3 : Int) (x4 : Int) (x5 : Int) (x6 : Int) (x7 : Bool) (x8 : Int) (x9 : Bool) (s : List (S60)) (c : Int) (v : List Int) : Option (Int × Int × Int × Int × Int × Int × Int × Bool × Int × Bool × List (S60) × Bool) :=
  if c = 2 then (if (v.length : Int) = 2 then ((impl_get.f k v).bind fun t => some (x0, x1, x2, x3, x4, x5, t, x7, x8, x9, s, true)) else some (x0, x1, x2, x3, x4, x5, x6, x7, x8, x9, s, false))
  else if c = 3 then (if (v.length : Int) = 1 then some (x0, x1, x2, x3, x4, x5, x6, true, mn (wrap64 (rd v 0)) 14, x9, s, true) else some (x0, x1, x2, x3, x4, x5, x6, x7, x8, x9, s, false))
  else if c = 4 then (if (v.length : Int) = 0 then some (x0, x1, x2, x3, x4, x5, x6, x7, x8, true, s, true) else some (x0, x1, x2, x3, x4, x5, x6, x7, x8, true, s, false))
  else if c = 5 then (if 0 < (v.length : Int) then (if (v.length : Int) % 8 = 0 then (if (v.length : Int) ≤ 32 then ((impl_DecodeSegment.sacks k 0 [] v).bind fun t => some (x0, x1, x2, x3, x4, x5, x6, x7, x8, x9, t, true)) else some (x0, x1, x2, x3, x4, x5, x6, x7, x8, x9, s, false)) else some (x0, x1, x2, x3, x4, x5, x6, x7, x8, x9, s, false)) else some (x0, x1, x2, x3, x4, x5, x6, x7, x8, x9, s, false))
  else some (x0, x1, x2, x3, x4, x5, x6, x7, x8, x9, s, true)
def impl_DecodeSegment.l0 : Nat → Int → Int → Int → Int → Int → Int → Int → Bool → Int → Bool → List (S60) → List Int → Option (Int × Int × Int × Int × Int × Int × Int × Bool × Int × Bool × List (S60) × Bool)
  | 0, _, _, _, _, _, _, _, _, _, _, _, _ => none
  | k + 1, x0, x1, x2, x3, x4, x5, x6, x7, x8, x9, s, b => if 0 < (b.length : Int) then (if (rd b 0) = 0 then (some (x0, x1, x2, x3, x4, x5, x6, x7, x8, x9, s, true)) else (if (rd b 0) = 1 then (impl_DecodeSegment.l0 k x0 x1 x2 x3 x4 x5 x6 x7 x8 x9 s (b.drop 1)) else (if (b.length : Int) < 2 then (some (x0, x1, x2, x3, x4, x5, x6, x7, x8, x9, s, false)) else (if (rd b 1) < 2 then (some (x0, x1, x2, x3, x4, x5, x6, x7, x8, x9, s, false)) else (if (b.length : Int) < (wrap64 (rd b 1)) then (some (x0, x1, x2, x3, x4, x5, x6, x7, x8, x9, s, false)) else (if (rd b 1) ≤ (b.length : Int) then ((impl_DecodeSegment.opt k x0 x1 x2 x3 x4 x5 x6 x7 x8 x9 s (rd b 0) ((b.take (rd b 1).toNat).drop 2)).bind fun t => (if t.2.2.2.2.2.2.2.2.2.2.2 = true then (impl_DecodeSegment.l0 k t.1 t.2.1 t.2.2.1 t.2.2.2.1 t.2.2.2.2.1 t.2.2.2.2.2.1 t.2.2.2.2.2.2.1 t.2.2.2.2.2.2.2.1 t.2.2.2.2.2.2.2.2.1 t.2.2.2.2.2.2.2.2.2.1 t.2.2.2.2.2.2.2.2.2.2.1 (b.drop (rd b 1).toNat)) else (some (x0, x1, x2, x3, x4, x5, x6, x7, x8, x9, s, false)))) else (none))))))) else (some (x0, x1, x2, x3, x4, x5, x6, x7, x8, x9, s, true))
def impl_DecodeSegment.r (d : List Int) (t : Int × Int × Int × Int × Int × Int × Int × Bool × Int × Bool × List (S60) × Bool) : Option (Int × Int × Int × Int × Int × Int × Int × Bool × Int × Bool × List (S60) × List Int × Int) := if t.2.2.2.2.2.2.2.2.2.2.2 = true then some (t.1, t.2.1, t.2.2.1, t.2.2.2.1, t.2.2.2.2.1, t.2.2.2.2.2.1, t.2.2.2.2.2.2.1, t.2.2.2.2.2.2.2.1, t.2.2.2.2.2.2.2.2.1, t.2.2.2.2.2.2.2.2.2.1, t.2.2.2.2.2.2.2.2.2.2.1, d, 0) else some (0, 0, 0, 0, 0, 0, 0, false, 0, false, [], [], 10)
def impl_DecodeSegment.t (k : Nat) (b : List Int) (n : Int) : Option (Int × Int × Int × Int × Int × Int × Int × Bool × Int × Bool × List (S60) × List Int × Int) := (impl_get.f k (b.take 2)).bind fun t0 => ((impl_get.f k ((b.take 4).drop 2)).bind fun t1 => ((impl_get.f k ((b.take 8).drop 4)).bind fun t2 => ((impl_get.f k ((b.take 12).drop 8)).bind fun t3 => ((impl_get.f k ((b.take 16).drop 14)).bind fun t5 => ((impl_dup.f (b.drop n.toNat)).bind fun d => ((impl_DecodeSegment.l0 k t0 t1 t2 t3 (wrap64 (Go.bits .and .u8 (rd b 13) 63)) t5 0 false 0 false [] ((b.take n.toNat).drop 20)).bind (impl_DecodeSegment.r d)))))))
def impl_DecodeSegment.s (k : Nat) (b : List Int) (src dst n : Int) : Option (Int × Int × Int × Int × Int × Int × Int × Bool × Int × Bool × List (S60) × List Int × Int) := if n < 20 then some (0, 0, 0, 0, 0, 0, 0, false, 0, false, [], [], 5) else if (b.length : Int) < n then some (0, 0, 0, 0, 0, 0, 0, false, 0, false, [], [], 5) else (impl_FalseHead.f k src dst 6 (b.length : Int)).bind fun t => if t.length + b.length < 140737488355328 then ((impl_Checksum.f k (t ++ b)).bind fun c => if c = 0 then (impl_DecodeSegment.t k b n) else some (0, 0, 0, 0, 0, 0, 0, false, 0, false, [], [], 3)) else none
def impl_DecodeSegment.g (k : Nat) (b : List Int) (src dst : Int) : Option (Int × Int × Int × Int × Int × Int × Int × Bool × Int × Bool × List (S60) × List Int × Int) := if (b.length : Int) < 20 then some (0, 0, 0, 0, 0, 0, 0, false, 0, false, [], [], 2) else if 65515 < (b.length : Int) then some (0, 0, 0, 0, 0, 0, 0, false, 0, false, [], [], 7) else impl_DecodeSegment.s k b src dst (wrap64 ((wrap64 ((rd b 12) / 16)) * 4))
def impl_DecodeSegment.f (k : Nat) (b : List Int) (src dst : Int) : Option (Int × Int × Int × Int × Int × Int × Int × Bool × Int × Bool × List (S60) × List Int × Int) := (impl_isAddr.f src).bind fun p => if p = true then ((impl_isAddr.f dst).bind fun q => if q = true then (impl_DecodeSegment.g k b src dst) else some (0, 0, 0, 0, 0, 0, 0, false, 0, false, [], [], 1)) else some (0, 0, 0, 0, 0, 0, 0, false, 0, false, [], [], 1)
def impl_DecodeSegment.Post (r0 : Int) (r1 : Int) (r2 : Int) (r3 : Int) (r4 : Int) (r5 : Int) (r6 : Int) (r7 : Bool) (r8 : Int) (r9 : Bool) (r10 : List (S60)) (r11 : List Int) (r12 : Int) (w : World) (e : Ending) (w' : World) : Prop := ∃ v10_ v11_ : Value, e = .returned (.tuple #[.agg #[.int .i64 r0, .int .i64 r1, .int .i64 r2, .int .i64 r3, .int .i64 r4, .int .i64 r5, .int .i64 r6, .bool r7, .int .i64 r8, .bool r9, v10_, v11_], .int .i64 r12]) ∧ Kd.R k60 60 w' w.heap.size (fun k_ => w.heap.size ≤ k_) v10_ r10 ∧ Kd.R (Kd.int .u8) 5 w' w.heap.size (fun k_ => w.heap.size ≤ k_) v11_ r11 ∧ Below w.heap.size w w'
theorem impl_DecodeSegment.sacks.mono_l : ∀ k y0 y1 y2, LeO (impl_DecodeSegment.sacks k y0 y1 y2) (impl_DecodeSegment.sacks (k + 1) y0 y1 y2)
  | 0 => fun _ _ _ r h => by simp [impl_DecodeSegment.sacks] at h
  | k + 1 => by
    have ih := impl_DecodeSegment.sacks.mono_l k
    intro y0 y1 y2
    unfold impl_DecodeSegment.sacks
    repeat' first
      | (with_reducible exact ih _ _ _)
      | (with_reducible exact impl_get.mono _ _)
      | (with_reducible exact LeO.refl _)
      | (with_reducible exact LeO.none _)
      | (with_reducible refine LeO.ite ?_ ?_)
      | (with_reducible refine LeO.bind ?_ (fun _ => ?_))
      | exact impl_get.mono _ _
      | exact LeO.none _
      | refine LeO.ite ?_ ?_
      | refine LeO.bind ?_ (fun _ => ?_)
      | exact ih _ _ _
theorem impl_DecodeSegment.opt.mono : ∀ y0 y1 y2 y3 y4 y5 y6 y7 y8 y9 y10 y11 y12 k, LeO (impl_DecodeSegment.opt k y0 y1 y2 y3 y4 y5 y6 y7 y8 y9 y10 y11 y12) (impl_DecodeSegment.opt (k + 1) y0 y1 y2 y3 y4 y5 y6 y7 y8 y9 y10 y11 y12) := by
  intro y0 y1 y2 y3 y4 y5 y6 y7 y8 y9 y10 y11 y12 k
  unfold impl_DecodeSegment.opt
  repeat' first
    | (with_reducible exact impl_get.mono _ _)
    | (with_reducible exact impl_DecodeSegment.sacks.mono_l _ _ _ _)
    | (with_reducible exact LeO.refl _)
    | (with_reducible exact LeO.none _)
    | (with_reducible refine LeO.ite ?_ ?_)
    | (with_reducible refine LeO.bind ?_ (fun _ => ?_))
    | exact impl_get.mono _ _
    | exact impl_DecodeSegment.sacks.mono_l _ _ _ _
    | exact LeO.none _
    | refine LeO.ite ?_ ?_
    | refine LeO.bind ?_ (fun _ => ?_)
theorem impl_DecodeSegment.l0.mono_l : ∀ k y0 y1 y2 y3 y4 y5 y6 y7 y8 y9 y10 y11, LeO (impl_DecodeSegment.l0 k y0 y1 y2 y3 y4 y5 y6 y7 y8 y9 y10 y11) (impl_DecodeSegment.l0 (k + 1) y0 y1 y2 y3 y4 y5 y6 y7 y8 y9 y10 y11)
  | 0 => fun _ _ _ _ _ _ _ _ _ _ _ _ r h => by simp [impl_DecodeSegment.l0] at h
  | k + 1 => by
    have ih := impl_DecodeSegment.l0.mono_l k
    intro y0 y1 y2 y3 y4 y5 y6 y7 y8 y9 y10 y11
    unfold impl_DecodeSegment.l0
    repeat' first
      | (with_reducible exact ih _ _ _ _ _ _ _ _ _ _ _ _)
      | (with_reducible exact impl_DecodeSegment.opt.mono _ _ _ _ _ _ _ _ _ _ _ _ _ _)
      | (with_reducible exact LeO.refl _)
      | (with_reducible exact LeO.none _)
      | (with_reducible refine LeO.ite ?_ ?_)
      | (with_reducible refine LeO.bind ?_ (fun _ => ?_))
      | exact impl_DecodeSegment.opt.mono _ _ _ _ _ _ _ _ _ _ _ _ _ _
      | exact LeO.none _
      | refine LeO.ite ?_ ?_
      | refine LeO.bind ?_ (fun _ => ?_)
      | exact ih _ _ _ _ _ _ _ _ _ _ _ _
theorem impl_DecodeSegment.t.mono : ∀ y0 y1 k, LeO (impl_DecodeSegment.t k y0 y1) (impl_DecodeSegment.t (k + 1) y0 y1) := by
  intro y0 y1 k
  unfold impl_DecodeSegment.t
  repeat' first
    | (with_reducible exact impl_get.mono _ _)
    | (with_reducible exact impl_DecodeSegment.l0.mono_l _ _ _ _ _ _ _ _ _ _ _ _ _)
    | (with_reducible exact LeO.refl _)
    | (with_reducible exact LeO.none _)
    | (with_reducible refine LeO.ite ?_ ?_)
    | (with_reducible refine LeO.bind ?_ (fun _ => ?_))
    | exact impl_get.mono _ _
    | exact impl_DecodeSegment.l0.mono_l _ _ _ _ _ _ _ _ _ _ _ _ _
    | exact LeO.none _
    | refine LeO.ite ?_ ?_
    | refine LeO.bind ?_ (fun _ => ?_)
theorem impl_DecodeSegment.s.mono : ∀ y0 y1 y2 y3 k, LeO (impl_DecodeSegment.s k y0 y1 y2 y3) (impl_DecodeSegment.s (k + 1) y0 y1 y2 y3) := by
  intro y0 y1 y2 y3 k
  unfold impl_DecodeSegment.s
  repeat' first
    | (with_reducible exact impl_FalseHead.mono _ _ _ _ _)
    | (with_reducible exact impl_Checksum.mono _ _)
    | (with_reducible exact impl_DecodeSegment.t.mono _ _ _)
    | (with_reducible exact LeO.refl _)
    | (with_reducible exact LeO.none _)
    | (with_reducible refine LeO.ite ?_ ?_)
    | (with_reducible refine LeO.bind ?_ (fun _ => ?_))
    | exact impl_FalseHead.mono _ _ _ _ _
    | exact impl_Checksum.mono _ _
    | exact impl_DecodeSegment.t.mono _ _ _
    | exact LeO.none _
    | refine LeO.ite ?_ ?_
    | refine LeO.bind ?_ (fun _ => ?_)
theorem impl_DecodeSegment.g.mono : ∀ y0 y1 y2 k, LeO (impl_DecodeSegment.g k y0 y1 y2) (impl_DecodeSegment.g (k + 1) y0 y1 y2) := by
  intro y0 y1 y2 k
  unfold impl_DecodeSegment.g
  repeat' first
    | (with_reducible exact impl_DecodeSegment.s.mono _ _ _ _ _)
    | (with_reducible exact LeO.refl _)
    | (with_reducible exact LeO.none _)
    | (with_reducible refine LeO.ite ?_ ?_)
    | (with_reducible refine LeO.bind ?_ (fun _ => ?_))
    | exact impl_DecodeSegment.s.mono _ _ _ _ _
    | exact LeO.none _
    | refine LeO.ite ?_ ?_
    | refine LeO.bind ?_ (fun _ => ?_)
theorem impl_DecodeSegment.mono : ∀ y0 y1 y2 k, LeO (impl_DecodeSegment.f k y0 y1 y2) (impl_DecodeSegment.f (k + 1) y0 y1 y2) := by
  intro y0 y1 y2 k
  unfold impl_DecodeSegment.f
  repeat' first
    | (with_reducible exact impl_DecodeSegment.g.mono _ _ _ _)
    | (with_reducible exact LeO.refl _)
    | (with_reducible exact LeO.none _)
    | (with_reducible refine LeO.ite ?_ ?_)
    | (with_reducible refine LeO.bind ?_ (fun _ => ?_))
    | exact impl_DecodeSegment.g.mono _ _ _ _
    | exact LeO.none _
    | refine LeO.ite ?_ ?_
    | refine LeO.bind ?_ (fun _ => ?_)
def impl_DecodeSegment.T13 : Bool × List (List Nat × List Nat) := (true, [([], []), ([0], [0]), ([1], [1]), ([], []), ([3], [3]), ([4, 2], [4]), ([], []), ([6], [6]), ([7, 5], [7]), ([], []), ([9], [9]), ([10, 8], [10]), ([], []), ([12], [12]), ([13], [13]), ([14], [14]), ([15], [15]), ([], []), ([17], [17]), ([18, 11], [18]), ([], []), ([], []), ([20, 21], [20, 21]), ([22, 19], [22]), ([2, 5, 8, 11, 16, 19, 23], [2, 5, 8, 11, 16, 19, 23]), ([24, 23, 0, 1, 2, 3, 4, 5, 6, 7, 8, 9, 10, 11, 12, 13, 14, 15, 16, 17, 18, 19, 20, 21, 22, 23, 24], [24])])
def impl_DecodeSegment.B13 : List Nat := [0, 1, 3, 0, 8, 31, 0, 64, 255, 0, 512, 2047, 0, 4096, 12288, 28672, 61440, 0, 131072, 397311, 0, 0, 3145728, 8261631, 16777215, 33554431]
theorem impl_DecodeSegment.tab13 : rtab .any (opsOf Try.f7 13) = impl_DecodeSegment.T13 := by kernel_rfl
theorem impl_DecodeSegment.bits13 : waitsOk impl_DecodeSegment.T13.2 impl_DecodeSegment.B13 = true := by kernel_rfl
def impl_DecodeSegment.T30 : Bool × List (List Nat × List Nat) := (true, [([], []), ([0], [0]), ([1], [1]), ([2], [2]), ([3], [3]), ([], []), ([5], [5]), ([0, 1, 2, 3, 4, 5, 6], []), ([7, 4, 6, 0, 1, 2, 3, 4, 5, 6], [4, 7])])
def impl_DecodeSegment.B30 : List Nat := [0, 1, 3, 7, 15, 0, 32, 127, 255]
theorem impl_DecodeSegment.tab30 : rtab .any (opsOf Try.f7 30) = impl_DecodeSegment.T30 := by kernel_rfl
theorem impl_DecodeSegment.bits30 : waitsOk impl_DecodeSegment.T30.2 impl_DecodeSegment.B30 = true := by kernel_rfl
def impl_DecodeSegment.T41 : Bool × List (List Nat × List Nat) := (true, [([], []), ([0], [0]), ([], []), ([], []), ([], []), ([4], [4]), ([2, 3, 5], [2, 3, 5]), ([6], [6]), ([], []), ([], []), ([9], [9]), ([], []), ([11], [11]), ([8, 10, 12], [8, 10, 12]), ([13, 7], [13]), ([7, 14], [7, 14]), ([15], [15]), ([1, 16, 14], [1, 16]), ([0, 1, 2, 3, 4, 5, 6, 7, 8, 9, 10, 11, 12, 13, 14, 15, 16, 17], []), ([18, 17, 17, 0, 1, 2, 3, 4, 5, 6, 7, 8, 9, 10, 11, 12, 13, 14, 15, 16, 17], [17, 18])])
def impl_DecodeSegment.B41 : List Nat := [0, 1, 0, 0, 0, 16, 60, 124, 0, 0, 512, 0, 2048, 7936, 16380, 32764, 65532, 131071, 262143, 524287]
theorem impl_DecodeSegment.tab41 : rtab .any (opsOf Try.f7 41) = impl_DecodeSegment.T41 := by kernel_rfl
theorem impl_DecodeSegment.bits41 : waitsOk impl_DecodeSegment.T41.2 impl_DecodeSegment.B41 = true := by kernel_rfl
def impl_DecodeSegment.Good (k : Nat) (b : List Int) (src dst : Int) : Prop := impl_isAddr.f src = some true ∧ impl_isAddr.f dst = some true ∧ ¬ (b.length : Int) < 20 ∧ ¬ 65515 < (b.length : Int) ∧ ¬ wrap64 ((wrap64 ((rd b 12) / 16)) * 4) < 20 ∧ ¬ (b.length : Int) < wrap64 ((wrap64 ((rd b 12) / 16)) * 4) ∧ ∃ t, impl_FalseHead.f k src dst 6 (b.length : Int) = some t ∧ impl_Checksum.f k (t ++ b) = some 0
set_option maxHeartbeats 60000000 in
set_option maxRecDepth 100000 in
theorem impl_DecodeSegment.early (k : Nat) (A0 : Option Addr) (c0 : Nat) (l0 : List Int) (a1 a2 : Int) (r0 : Int) (r1 : Int) (r2 : Int) (r3 : Int) (r4 : Int) (r5 : Int) (r6 : Int) (r7 : Bool) (r8 : Int) (r9 : Bool) (r10 : List (S60)) (r11 : List Int) (r12 : Int) (w : World) (hr0 : Kd.C (Kd.int .u8) w A0 l0.length l0) (hc0 : l0.length ≤ c0) (h : impl_DecodeSegment.f k l0 a1 a2 = some (r0, r1, r2, r3, r4, r5, r6, r7, r8, r9, r10, r11, r12)) (hG : ¬ impl_DecodeSegment.Good k l0 a1 a2) :
    Calls Try.prog 7 #[.slice A0 l0.length c0, .int .i64 a1, .int .i64 a2] w (impl_DecodeSegment.Post r0 r1 r2 r3 r4 r5 r6 r7 r8 r9 r10 r11 r12 w) := by
  have hu25 := Try.underlying25
  have hu60 := Try.underlying60
  have HR0 := Aside0.mk hr0
  have HC0 := Aside0.mk hc0
  clear hr0 hc0
  have H' := Aside0.mk h
  have HG := Aside0.mk hG
  clear h hG
  have B := Aside0.mk (Below.refl w.heap.size w)
  go_enter Try.func7, Try.ntmps7
  go_upto_region 2 with (first
    | ((with_reducible refine gate_dst (N := 6) rfl ?_); refine box_event ?hg (N := 6) ?hd (cs := #[.int .i64 0, .int .i64 0, .int .i64 0, .int .i64 0, .int .i64 0, .int .i64 0, .int .i64 0, .bool false, .int .i64 0, .bool false, .slice none 0 0, .slice none 0 0]) (t := 25) ?hr ?_; (case hd => rfl); (case hg => rfl); (case hr => first | (go_simp; done) | (go_simp; rfl)); intro g6 hg v1 hbox hb; have K6 := Aside0.mk (show v1.heap[g6]? = some (.cells #[.int .i64 0, .int .i64 0, .int .i64 0, .int .i64 0, .int .i64 0, .int .i64 0, .int .i64 0, .bool false, .int .i64 0, .bool false, .slice none 0 0, .slice none 0 0] 25 (0, 0)) from hbox); have G6 := Aside0.mk ((by rw [hg]; exact B.out.size) : w.heap.size ≤ g6); skip; replace B := Aside0.mk (below_step B.out hb); clear hb hbox hg)
    | ((with_reducible refine gate_dst (N := 8) rfl ?_); refine box_event ?hg (N := 8) ?hd (cs := #[.int .i64 0, .int .i64 0, .int .i64 0, .int .i64 0, .int .i64 0, .int .i64 0, .int .i64 0, .bool false, .int .i64 0, .bool false, .slice none 0 0, .slice none 0 0]) (t := 25) ?hr ?_; (case hd => rfl); (case hg => rfl); (case hr => first | (go_simp; done) | (go_simp; rfl)); intro g8 hg v2 hbox hb; have K8 := Aside0.mk (show v2.heap[g8]? = some (.cells #[.int .i64 0, .int .i64 0, .int .i64 0, .int .i64 0, .int .i64 0, .int .i64 0, .int .i64 0, .bool false, .int .i64 0, .bool false, .slice none 0 0, .slice none 0 0] 25 (0, 0)) from hbox); have G8 := Aside0.mk ((by rw [hg]; exact B.out.size) : w.heap.size ≤ g8); have N68 := Aside0.mk ((by rw [hg]; exact Nat.ne_of_lt (blk_lt K6.out)) : g6 ≠ g8); replace B := Aside0.mk (below_step B.out hb); replace K6 := Aside0.mk (blk_below K6.out hb); clear hb hbox hg)
    | ((with_reducible refine gate_dst (N := 9) rfl ?_); refine box_event ?hg (N := 9) ?hd (cs := #[.int .i64 0, .int .i64 0, .int .i64 0, .int .i64 0, .int .i64 0, .int .i64 0, .int .i64 0, .bool false, .int .i64 0, .bool false, .slice none 0 0, .slice none 0 0]) (t := 25) ?hr ?_; (case hd => rfl); (case hg => rfl); (case hr => first | (go_simp; done) | (go_simp; rfl)); intro g9 hg v3 hbox hb; have K9 := Aside0.mk (show v3.heap[g9]? = some (.cells #[.int .i64 0, .int .i64 0, .int .i64 0, .int .i64 0, .int .i64 0, .int .i64 0, .int .i64 0, .bool false, .int .i64 0, .bool false, .slice none 0 0, .slice none 0 0] 25 (0, 0)) from hbox); have G9 := Aside0.mk ((by rw [hg]; exact B.out.size) : w.heap.size ≤ g9); have N69 := Aside0.mk ((by rw [hg]; exact Nat.ne_of_lt (blk_lt K6.out)) : g6 ≠ g9); have N89 := Aside0.mk ((by rw [hg]; exact Nat.ne_of_lt (blk_lt K8.out)) : g8 ≠ g9); replace B := Aside0.mk (below_step B.out hb); replace K6 := Aside0.mk (blk_below K6.out hb); replace K8 := Aside0.mk (blk_below K8.out hb); clear hb hbox hg))
  have H := H'.out
  clear H'
  unfold impl_DecodeSegment.f at H
  replace H := Option.bind_eq_some_iff.mp H; obtain ⟨p, Ap, H⟩ := H
  have P1 := Aside0.mk Ap
  clear Ap
  cases p with
  | false =>
    rw [if_neg (by decide)] at H
    simp only [Option.some.injEq, Prod.mk.injEq] at H
    obtain ⟨rfl, rfl, rfl, rfl, rfl, rfl, rfl, rfl, rfl, rfl, rfl, rfl, rfl⟩ := H
    go_wp2_with (first
        | ((with_reducible refine gate_callee (f := 28) rfl ?_); refine goesL_ (some 17) rfl rfl Try.func28 (by kernel_rfl) rfl #[.int .i64 a1] rfl wT ?_; (with_reducible refine (impl_isAddr.calls a1 false _ P1.out).mono ?_); rintro e v4 ⟨rfl, dd⟩; refine ⟨_, rfl, ?_⟩; have hb := dd.below; replace B := Aside0.mk (below_step B.out hb); replace K6 := Aside0.mk (blk_below K6.out hb); replace K8 := Aside0.mk (blk_below K8.out hb); replace K9 := Aside0.mk (blk_below K9.out hb); clear hb dd; obtain ⟨⟨hcza_0, hcza_1, hcza_2, hcza_3, hcza_4, hcza_5, hcza_6, hcza_7, hcza_8, hcza_9, hcza_10, hcza_11⟩, hfza_0, hfza_1, hfza_2, hfza_3, hfza_4, hfza_5, hfza_6, hfza_7, hfza_8, hfza_9, hfza_10, hfza_11⟩ := cells12 K6.out; obtain ⟨⟨hczb_0, hczb_1, hczb_2, hczb_3, hczb_4, hczb_5, hczb_6, hczb_7, hczb_8, hczb_9, hczb_10, hczb_11⟩, hfzb_0, hfzb_1, hfzb_2, hfzb_3, hfzb_4, hfzb_5, hfzb_6, hfzb_7, hfzb_8, hfzb_9, hfzb_10, hfzb_11⟩ := cells12 K9.out)
        | ((with_reducible refine gate_store (t := 25) (p := 6) rfl ?_); refine store_event (t := 25) (p := 6) (v := ?vo_1) (w1 := put12 v4 g6 (.int .i64 0) (.int .i64 0) (.int .i64 0) (.int .i64 0) (.int .i64 0) (.int .i64 0) (.int .i64 0) (.bool false) (.int .i64 0) (.bool false) (.slice none 0 0) (.slice none 0 0)) ?hg ?ho ?hn ?hr ?_; (case ho => rfl); (case hg => rfl); (case hn => rfl); (case hr => first | (go_simp; done) | (go_simp; rfl)); intro vS hw; replace K6 : Aside0 (vS.heap[g6]? = some (.cells #[.int .i64 0, .int .i64 0, .int .i64 0, .int .i64 0, .int .i64 0, .int .i64 0, .int .i64 0, .bool false, .int .i64 0, .bool false, .slice none 0 0, .slice none 0 0] 25 (0, 0))) := ⟨by rw [hw]; exact set12 K6.out⟩; replace B : Aside0 (Below w.heap.size w vS) := ⟨by rw [hw]; refine below_set ?_ G6.out; refine below_set ?_ G6.out; refine below_set ?_ G6.out; refine below_set ?_ G6.out; refine below_set ?_ G6.out; refine below_set ?_ G6.out; refine below_set ?_ G6.out; refine below_set ?_ G6.out; refine below_set ?_ G6.out; refine below_set ?_ G6.out; refine below_set ?_ G6.out; refine below_set ?_ G6.out; exact B.out⟩; clear hw; skip))
    refine bodyPost_ret (results_ct rfl _ _ g6 25 #[.int .i64 0, .int .i64 0, .int .i64 0, .int .i64 0, .int .i64 0, .int .i64 0, .int .i64 0, .bool false, .int .i64 0, .bool false, .slice none 0 0, .slice none 0 0] (0, 0) _ rfl K6.out Try.underlying25 rfl (by kernel_rfl)) rfl ?_
    exact ⟨.slice none 0 0, .slice none 0 0, (by first | rfl | (simp; done) | (simp [*]; done) | (simp [errW_none, errW_some] <;> rfl) | (simp [*, errW_none, errW_some] <;> rfl)), Kd.R_nil _ _ _ _ _, Kd.R_nil _ _ _ _ _, B.out⟩
  | true =>
    rw [if_pos rfl] at H
    replace H := Option.bind_eq_some_iff.mp H; obtain ⟨q, Aq, H⟩ := H
    have P2 := Aside0.mk Aq
    clear Aq
    cases q with
    | false =>
      rw [if_neg (by decide)] at H
      simp only [Option.some.injEq, Prod.mk.injEq] at H
      obtain ⟨rfl, rfl, rfl, rfl, rfl, rfl, rfl, rfl, rfl, rfl, rfl, rfl, rfl⟩ := H
      go_wp2_with (first
          | ((with_reducible refine gate_callee (f := 28) rfl ?_); refine goesL_ (some 17) rfl rfl Try.func28 (by kernel_rfl) rfl #[.int .i64 a1] rfl wT ?_; (with_reducible refine (impl_isAddr.calls a1 true _ P1.out).mono ?_); rintro e v4 ⟨rfl, dd⟩; refine ⟨_, rfl, ?_⟩; have hb := dd.below; replace B := Aside0.mk (below_step B.out hb); replace K6 := Aside0.mk (blk_below K6.out hb); replace K8 := Aside0.mk (blk_below K8.out hb); replace K9 := Aside0.mk (blk_below K9.out hb); clear hb dd; skip)
          | (go_at_call 28; (with_reducible refine (impl_isAddr.calls a2 false _ P2.out).mono ?_); rintro e v5 ⟨rfl, dd⟩; have hb := dd.below; replace B := Aside0.mk (below_step B.out hb); replace K6 := Aside0.mk (blk_below K6.out hb); replace K8 := Aside0.mk (blk_below K8.out hb); replace K9 := Aside0.mk (blk_below K9.out hb); clear hb dd; obtain ⟨⟨hcza_0, hcza_1, hcza_2, hcza_3, hcza_4, hcza_5, hcza_6, hcza_7, hcza_8, hcza_9, hcza_10, hcza_11⟩, hfza_0, hfza_1, hfza_2, hfza_3, hfza_4, hfza_5, hfza_6, hfza_7, hfza_8, hfza_9, hfza_10, hfza_11⟩ := cells12 K6.out; obtain ⟨⟨hczb_0, hczb_1, hczb_2, hczb_3, hczb_4, hczb_5, hczb_6, hczb_7, hczb_8, hczb_9, hczb_10, hczb_11⟩, hfzb_0, hfzb_1, hfzb_2, hfzb_3, hfzb_4, hfzb_5, hfzb_6, hfzb_7, hfzb_8, hfzb_9, hfzb_10, hfzb_11⟩ := cells12 K9.out)
          | ((with_reducible refine gate_store (t := 25) (p := 6) rfl ?_); refine store_event (t := 25) (p := 6) (v := ?vo_2) (w1 := put12 v5 g6 (.int .i64 0) (.int .i64 0) (.int .i64 0) (.int .i64 0) (.int .i64 0) (.int .i64 0) (.int .i64 0) (.bool false) (.int .i64 0) (.bool false) (.slice none 0 0) (.slice none 0 0)) ?hg ?ho ?hn ?hr ?_; (case ho => rfl); (case hg => rfl); (case hn => rfl); (case hr => first | (go_simp; done) | (go_simp; rfl)); intro vS hw; replace K6 : Aside0 (vS.heap[g6]? = some (.cells #[.int .i64 0, .int .i64 0, .int .i64 0, .int .i64 0, .int .i64 0, .int .i64 0, .int .i64 0, .bool false, .int .i64 0, .bool false, .slice none 0 0, .slice none 0 0] 25 (0, 0))) := ⟨by rw [hw]; exact set12 K6.out⟩; replace B : Aside0 (Below w.heap.size w vS) := ⟨by rw [hw]; refine below_set ?_ G6.out; refine below_set ?_ G6.out; refine below_set ?_ G6.out; refine below_set ?_ G6.out; refine below_set ?_ G6.out; refine below_set ?_ G6.out; refine below_set ?_ G6.out; refine below_set ?_ G6.out; refine below_set ?_ G6.out; refine below_set ?_ G6.out; refine below_set ?_ G6.out; refine below_set ?_ G6.out; exact B.out⟩; clear hw; skip))
      refine bodyPost_ret (results_ct rfl _ _ g6 25 #[.int .i64 0, .int .i64 0, .int .i64 0, .int .i64 0, .int .i64 0, .int .i64 0, .int .i64 0, .bool false, .int .i64 0, .bool false, .slice none 0 0, .slice none 0 0] (0, 0) _ rfl K6.out Try.underlying25 rfl (by kernel_rfl)) rfl ?_
      exact ⟨.slice none 0 0, .slice none 0 0, (by first | rfl | (simp; done) | (simp [*]; done) | (simp [errW_none, errW_some] <;> rfl) | (simp [*, errW_none, errW_some] <;> rfl)), Kd.R_nil _ _ _ _ _, Kd.R_nil _ _ _ _ _, B.out⟩
    | true =>
      rw [if_pos rfl] at H
      unfold impl_DecodeSegment.g at H
      by_cases c1 : (l0.length : Int) < 20
      · rw [if_pos c1] at H
        have c1b : decide ((l0.length : Int) < 20) = true := decide_eq_true c1
        have c1c : decide (l0.length < 20) = true := decide_eq_true (by omega)
        simp only [Option.some.injEq, Prod.mk.injEq] at H
        obtain ⟨rfl, rfl, rfl, rfl, rfl, rfl, rfl, rfl, rfl, rfl, rfl, rfl, rfl⟩ := H
        go_wp2_with (first
            | ((with_reducible refine gate_callee (f := 28) rfl ?_); refine goesL_ (some 17) rfl rfl Try.func28 (by kernel_rfl) rfl #[.int .i64 a1] rfl wT ?_; (with_reducible refine (impl_isAddr.calls a1 true _ P1.out).mono ?_); rintro e v4 ⟨rfl, dd⟩; refine ⟨_, rfl, ?_⟩; have hb := dd.below; replace B := Aside0.mk (below_step B.out hb); replace K6 := Aside0.mk (blk_below K6.out hb); replace K8 := Aside0.mk (blk_below K8.out hb); replace K9 := Aside0.mk (blk_below K9.out hb); clear hb dd; skip)
            | (go_at_call 28; (with_reducible refine (impl_isAddr.calls a2 true _ P2.out).mono ?_); rintro e v5 ⟨rfl, dd⟩; have hb := dd.below; replace B := Aside0.mk (below_step B.out hb); replace K6 := Aside0.mk (blk_below K6.out hb); replace K8 := Aside0.mk (blk_below K8.out hb); replace K9 := Aside0.mk (blk_below K9.out hb); clear hb dd; obtain ⟨⟨hcza_0, hcza_1, hcza_2, hcza_3, hcza_4, hcza_5, hcza_6, hcza_7, hcza_8, hcza_9, hcza_10, hcza_11⟩, hfza_0, hfza_1, hfza_2, hfza_3, hfza_4, hfza_5, hfza_6, hfza_7, hfza_8, hfza_9, hfza_10, hfza_11⟩ := cells12 K6.out; obtain ⟨⟨hczb_0, hczb_1, hczb_2, hczb_3, hczb_4, hczb_5, hczb_6, hczb_7, hczb_8, hczb_9, hczb_10, hczb_11⟩, hfzb_0, hfzb_1, hfzb_2, hfzb_3, hfzb_4, hfzb_5, hfzb_6, hfzb_7, hfzb_8, hfzb_9, hfzb_10, hfzb_11⟩ := cells12 K9.out)
            | ((with_reducible refine gate_store (t := 25) (p := 6) rfl ?_); refine store_event (t := 25) (p := 6) (v := ?vo_3) (w1 := put12 v5 g6 (.int .i64 0) (.int .i64 0) (.int .i64 0) (.int .i64 0) (.int .i64 0) (.int .i64 0) (.int .i64 0) (.bool false) (.int .i64 0) (.bool false) (.slice none 0 0) (.slice none 0 0)) ?hg ?ho ?hn ?hr ?_; (case ho => rfl); (case hg => rfl); (case hn => rfl); (case hr => first | (go_simp; done) | (go_simp; rfl)); intro vS hw; replace K6 : Aside0 (vS.heap[g6]? = some (.cells #[.int .i64 0, .int .i64 0, .int .i64 0, .int .i64 0, .int .i64 0, .int .i64 0, .int .i64 0, .bool false, .int .i64 0, .bool false, .slice none 0 0, .slice none 0 0] 25 (0, 0))) := ⟨by rw [hw]; exact set12 K6.out⟩; replace B : Aside0 (Below w.heap.size w vS) := ⟨by rw [hw]; refine below_set ?_ G6.out; refine below_set ?_ G6.out; refine below_set ?_ G6.out; refine below_set ?_ G6.out; refine below_set ?_ G6.out; refine below_set ?_ G6.out; refine below_set ?_ G6.out; refine below_set ?_ G6.out; refine below_set ?_ G6.out; refine below_set ?_ G6.out; refine below_set ?_ G6.out; refine below_set ?_ G6.out; exact B.out⟩; clear hw; skip))
        refine bodyPost_ret (results_ct rfl _ _ g6 25 #[.int .i64 0, .int .i64 0, .int .i64 0, .int .i64 0, .int .i64 0, .int .i64 0, .int .i64 0, .bool false, .int .i64 0, .bool false, .slice none 0 0, .slice none 0 0] (0, 0) _ rfl K6.out Try.underlying25 rfl (by kernel_rfl)) rfl ?_
        exact ⟨.slice none 0 0, .slice none 0 0, (by first | rfl | (simp; done) | (simp [*]; done) | (simp [errW_none, errW_some] <;> rfl) | (simp [*, errW_none, errW_some] <;> rfl)), Kd.R_nil _ _ _ _ _, Kd.R_nil _ _ _ _ _, B.out⟩
      rw [if_neg c1] at H
      have c1b : decide ((l0.length : Int) < 20) = false := decide_eq_false c1
      have c1c : decide (l0.length < 20) = false := decide_eq_false (by omega)
      by_cases c2 : 65515 < (l0.length : Int)
      · rw [if_pos c2] at H
        have c2b : decide (65515 < (l0.length : Int)) = true := decide_eq_true c2
        have c2c : decide (65515 < l0.length) = true := decide_eq_true (by omega)
        simp only [Option.some.injEq, Prod.mk.injEq] at H
        obtain ⟨rfl, rfl, rfl, rfl, rfl, rfl, rfl, rfl, rfl, rfl, rfl, rfl, rfl⟩ := H
        go_wp2_with (first
            | ((with_reducible refine gate_callee (f := 28) rfl ?_); refine goesL_ (some 17) rfl rfl Try.func28 (by kernel_rfl) rfl #[.int .i64 a1] rfl wT ?_; (with_reducible refine (impl_isAddr.calls a1 true _ P1.out).mono ?_); rintro e v4 ⟨rfl, dd⟩; refine ⟨_, rfl, ?_⟩; have hb := dd.below; replace B := Aside0.mk (below_step B.out hb); replace K6 := Aside0.mk (blk_below K6.out hb); replace K8 := Aside0.mk (blk_below K8.out hb); replace K9 := Aside0.mk (blk_below K9.out hb); clear hb dd; skip)
            | (go_at_call 28; (with_reducible refine (impl_isAddr.calls a2 true _ P2.out).mono ?_); rintro e v5 ⟨rfl, dd⟩; have hb := dd.below; replace B := Aside0.mk (below_step B.out hb); replace K6 := Aside0.mk (blk_below K6.out hb); replace K8 := Aside0.mk (blk_below K8.out hb); replace K9 := Aside0.mk (blk_below K9.out hb); clear hb dd; obtain ⟨⟨hcza_0, hcza_1, hcza_2, hcza_3, hcza_4, hcza_5, hcza_6, hcza_7, hcza_8, hcza_9, hcza_10, hcza_11⟩, hfza_0, hfza_1, hfza_2, hfza_3, hfza_4, hfza_5, hfza_6, hfza_7, hfza_8, hfza_9, hfza_10, hfza_11⟩ := cells12 K6.out; obtain ⟨⟨hczb_0, hczb_1, hczb_2, hczb_3, hczb_4, hczb_5, hczb_6, hczb_7, hczb_8, hczb_9, hczb_10, hczb_11⟩, hfzb_0, hfzb_1, hfzb_2, hfzb_3, hfzb_4, hfzb_5, hfzb_6, hfzb_7, hfzb_8, hfzb_9, hfzb_10, hfzb_11⟩ := cells12 K9.out)
            | ((with_reducible refine gate_store (t := 25) (p := 6) rfl ?_); refine store_event (t := 25) (p := 6) (v := ?vo_4) (w1 := put12 v5 g6 (.int .i64 0) (.int .i64 0) (.int .i64 0) (.int .i64 0) (.int .i64 0) (.int .i64 0) (.int .i64 0) (.bool false) (.int .i64 0) (.bool false) (.slice none 0 0) (.slice none 0 0)) ?hg ?ho ?hn ?hr ?_; (case ho => rfl); (case hg => rfl); (case hn => rfl); (case hr => first | (go_simp; done) | (go_simp; rfl)); intro vS hw; replace K6 : Aside0 (vS.heap[g6]? = some (.cells #[.int .i64 0, .int .i64 0, .int .i64 0, .int .i64 0, .int .i64 0, .int .i64 0, .int .i64 0, .bool false, .int .i64 0, .bool false, .slice none 0 0, .slice none 0 0] 25 (0, 0))) := ⟨by rw [hw]; exact set12 K6.out⟩; replace B : Aside0 (Below w.heap.size w vS) := ⟨by rw [hw]; refine below_set ?_ G6.out; refine below_set ?_ G6.out; refine below_set ?_ G6.out; refine below_set ?_ G6.out; refine below_set ?_ G6.out; refine below_set ?_ G6.out; refine below_set ?_ G6.out; refine below_set ?_ G6.out; refine below_set ?_ G6.out; refine below_set ?_ G6.out; refine below_set ?_ G6.out; refine below_set ?_ G6.out; exact B.out⟩; clear hw; skip))
        refine bodyPost_ret (results_ct rfl _ _ g6 25 #[.int .i64 0, .int .i64 0, .int .i64 0, .int .i64 0, .int .i64 0, .int .i64 0, .int .i64 0, .bool false, .int .i64 0, .bool false, .slice none 0 0, .slice none 0 0] (0, 0) _ rfl K6.out Try.underlying25 rfl (by kernel_rfl)) rfl ?_
        exact ⟨.slice none 0 0, .slice none 0 0, (by first | rfl | (simp; done) | (simp [*]; done) | (simp [errW_none, errW_some] <;> rfl) | (simp [*, errW_none, errW_some] <;> rfl)), Kd.R_nil _ _ _ _ _, Kd.R_nil _ _ _ _ _, B.out⟩
      rw [if_neg c2] at H
      have c2b : decide (65515 < (l0.length : Int)) = false := decide_eq_false c2
      have c2c : decide (65515 < l0.length) = false := decide_eq_false (by omega)
      have HL := Aside0.mk c1
      have HU := Aside0.mk c2
      clear c1 c2
      obtain ⟨ad, ead, hx12⟩ := Kd.at_int (Kd.C_below HR0.out B.out) 12 (by omega) (by have := HL.out; omega)
      subst ead
      simp only [show (12 : Int).toNat = 12 from rfl, Nat.reduceMul, Nat.reduceEqDiff, Go.Addr.add, ↓reduceIte] at hx12
      have HX12 := Aside0.mk hx12
      clear hx12
      go_upto_region 8 with (first
          | ((with_reducible refine gate_callee (f := 28) rfl ?_); refine goesL_ (some 17) rfl rfl Try.func28 (by kernel_rfl) rfl #[.int .i64 a1] rfl wT ?_; (with_reducible refine (impl_isAddr.calls a1 true _ P1.out).mono ?_); rintro e v4 ⟨rfl, dd⟩; refine ⟨_, rfl, ?_⟩; have hb := dd.below; replace B := Aside0.mk (below_step B.out hb); replace K6 := Aside0.mk (blk_below K6.out hb); replace K8 := Aside0.mk (blk_below K8.out hb); replace K9 := Aside0.mk (blk_below K9.out hb); clear hb dd; skip)
          | (go_at_call 28; (with_reducible refine (impl_isAddr.calls a2 true _ P2.out).mono ?_); rintro e v5 ⟨rfl, dd⟩; have hb := dd.below; replace B := Aside0.mk (below_step B.out hb); replace K6 := Aside0.mk (blk_below K6.out hb); replace K8 := Aside0.mk (blk_below K8.out hb); replace K9 := Aside0.mk (blk_below K9.out hb); clear hb dd; obtain ⟨⟨hcza_0, hcza_1, hcza_2, hcza_3, hcza_4, hcza_5, hcza_6, hcza_7, hcza_8, hcza_9, hcza_10, hcza_11⟩, hfza_0, hfza_1, hfza_2, hfza_3, hfza_4, hfza_5, hfza_6, hfza_7, hfza_8, hfza_9, hfza_10, hfza_11⟩ := cells12 K6.out; obtain ⟨⟨hczb_0, hczb_1, hczb_2, hczb_3, hczb_4, hczb_5, hczb_6, hczb_7, hczb_8, hczb_9, hczb_10, hczb_11⟩, hfzb_0, hfzb_1, hfzb_2, hfzb_3, hfzb_4, hfzb_5, hfzb_6, hfzb_7, hfzb_8, hfzb_9, hfzb_10, hfzb_11⟩ := cells12 K9.out))
      clear hcza_0 hfza_0 hcza_1 hfza_1 hcza_2 hfza_2 hcza_3 hfza_3 hcza_4 hfza_4 hcza_5 hfza_5 hcza_6 hfza_6 hcza_7 hfza_7 hcza_8 hfza_8 hcza_9 hfza_9 hcza_10 hfza_10 hcza_11 hfza_11 hczb_0 hfzb_0 hczb_1 hfzb_1 hczb_2 hfzb_2 hczb_3 hfzb_3 hczb_4 hfzb_4 hczb_5 hfzb_5 hczb_6 hfzb_6 hczb_7 hfzb_7 hczb_8 hfzb_8 hczb_9 hfzb_9 hczb_10 hfzb_10 hczb_11 hfzb_11
      obtain ⟨n, hn⟩ : ∃ n_ : Int, n_ = wrap64 ((wrap64 ((rd l0 12) / 16)) * 4) := ⟨_, rfl⟩
      rw [← hn] at H
      have hnw : wrap64 ((wrap64 ((rd l0 12) / 16)) * 4) = n := hn.symm
      have hnw2 : IntKind.i64.wrap ((IntKind.i64.wrap ((rd l0 12) / 16)) * 4) = n := by simp only [i64_w]; exact hnw
      have hnw3 : IntKind.i64.wrap ((wrap64 ((rd l0 12) / 16)) * 4) = n := by simp only [i64_w]; exact hnw
      have HNN := Aside0.mk hn
      clear hn
      obtain ⟨ad2, ead, hx12⟩ := Kd.at_int (Kd.C_below HR0.out B.out) 12 (by omega) (by have := HL.out; omega)
      obtain rfl : ad = ad2 := (by injection ead)
      simp only [show (12 : Int).toNat = 12 from rfl, Nat.reduceMul, Nat.reduceEqDiff, Go.Addr.add, ↓reduceIte] at hx12
      clear ead HX12
      have q12 : (12 < l0.length) = True := eq_true (by have := HL.out; omega)
      have q12i : ((12 : Int) < (l0.length : Int)) = True := eq_true (by have := HL.out; omega)
      unfold impl_DecodeSegment.s at H
      by_cases c3 : n < 20
      · rw [if_pos c3] at H
        have c3b : decide (n < 20) = true := decide_eq_true c3
        clear c3
        simp only [Option.some.injEq, Prod.mk.injEq] at H
        obtain ⟨rfl, rfl, rfl, rfl, rfl, rfl, rfl, rfl, rfl, rfl, rfl, rfl, rfl⟩ := H
        obtain ⟨⟨hcza_0, hcza_1, hcza_2, hcza_3, hcza_4, hcza_5, hcza_6, hcza_7, hcza_8, hcza_9, hcza_10, hcza_11⟩, hfza_0, hfza_1, hfza_2, hfza_3, hfza_4, hfza_5, hfza_6, hfza_7, hfza_8, hfza_9, hfza_10, hfza_11⟩ := cells12 K6.out
        obtain ⟨⟨hczb_0, hczb_1, hczb_2, hczb_3, hczb_4, hczb_5, hczb_6, hczb_7, hczb_8, hczb_9, hczb_10, hczb_11⟩, hfzb_0, hfzb_1, hfzb_2, hfzb_3, hfzb_4, hfzb_5, hfzb_6, hfzb_7, hfzb_8, hfzb_9, hfzb_10, hfzb_11⟩ := cells12 K9.out
        go_wp2_with (first
            | ((with_reducible refine gate_store (t := 25) (p := 6) rfl ?_); refine store_event (t := 25) (p := 6) (v := ?vo_5) (w1 := put12 v5 g6 (.int .i64 0) (.int .i64 0) (.int .i64 0) (.int .i64 0) (.int .i64 0) (.int .i64 0) (.int .i64 0) (.bool false) (.int .i64 0) (.bool false) (.slice none 0 0) (.slice none 0 0)) ?hg ?ho ?hn ?hr ?_; (case ho => rfl); (case hg => rfl); (case hn => rfl); (case hr => first | (go_simp; done) | (go_simp; rfl)); intro vS hw; replace K6 : Aside0 (vS.heap[g6]? = some (.cells #[.int .i64 0, .int .i64 0, .int .i64 0, .int .i64 0, .int .i64 0, .int .i64 0, .int .i64 0, .bool false, .int .i64 0, .bool false, .slice none 0 0, .slice none 0 0] 25 (0, 0))) := ⟨by rw [hw]; exact set12 K6.out⟩; replace B : Aside0 (Below w.heap.size w vS) := ⟨by rw [hw]; refine below_set ?_ G6.out; refine below_set ?_ G6.out; refine below_set ?_ G6.out; refine below_set ?_ G6.out; refine below_set ?_ G6.out; refine below_set ?_ G6.out; refine below_set ?_ G6.out; refine below_set ?_ G6.out; refine below_set ?_ G6.out; refine below_set ?_ G6.out; refine below_set ?_ G6.out; refine below_set ?_ G6.out; exact B.out⟩; clear hw; skip))
        refine bodyPost_ret (results_ct rfl _ _ g6 25 #[.int .i64 0, .int .i64 0, .int .i64 0, .int .i64 0, .int .i64 0, .int .i64 0, .int .i64 0, .bool false, .int .i64 0, .bool false, .slice none 0 0, .slice none 0 0] (0, 0) _ rfl K6.out Try.underlying25 rfl (by kernel_rfl)) rfl ?_
        exact ⟨.slice none 0 0, .slice none 0 0, (by first | rfl | (simp; done) | (simp [*]; done) | (simp [errW_none, errW_some] <;> rfl) | (simp [*, errW_none, errW_some] <;> rfl)), Kd.R_nil _ _ _ _ _, Kd.R_nil _ _ _ _ _, B.out⟩
      rw [if_neg c3] at H
      have c3b : decide (n < 20) = false := decide_eq_false c3
      by_cases c4 : (l0.length : Int) < n
      · rw [if_pos c4] at H
        have c4b : decide ((l0.length : Int) < n) = true := decide_eq_true c4
        clear c3 c4
        simp only [Option.some.injEq, Prod.mk.injEq] at H
        obtain ⟨rfl, rfl, rfl, rfl, rfl, rfl, rfl, rfl, rfl, rfl, rfl, rfl, rfl⟩ := H
        obtain ⟨⟨hcza_0, hcza_1, hcza_2, hcza_3, hcza_4, hcza_5, hcza_6, hcza_7, hcza_8, hcza_9, hcza_10, hcza_11⟩, hfza_0, hfza_1, hfza_2, hfza_3, hfza_4, hfza_5, hfza_6, hfza_7, hfza_8, hfza_9, hfza_10, hfza_11⟩ := cells12 K6.out
        obtain ⟨⟨hczb_0, hczb_1, hczb_2, hczb_3, hczb_4, hczb_5, hczb_6, hczb_7, hczb_8, hczb_9, hczb_10, hczb_11⟩, hfzb_0, hfzb_1, hfzb_2, hfzb_3, hfzb_4, hfzb_5, hfzb_6, hfzb_7, hfzb_8, hfzb_9, hfzb_10, hfzb_11⟩ := cells12 K9.out
        go_wp2_with (first
            | ((with_reducible refine gate_store (t := 25) (p := 6) rfl ?_); refine store_event (t := 25) (p := 6) (v := ?vo_6) (w1 := put12 v5 g6 (.int .i64 0) (.int .i64 0) (.int .i64 0) (.int .i64 0) (.int .i64 0) (.int .i64 0) (.int .i64 0) (.bool false) (.int .i64 0) (.bool false) (.slice none 0 0) (.slice none 0 0)) ?hg ?ho ?hn ?hr ?_; (case ho => rfl); (case hg => rfl); (case hn => rfl); (case hr => first | (go_simp; done) | (go_simp; rfl)); intro vS hw; replace K6 : Aside0 (vS.heap[g6]? = some (.cells #[.int .i64 0, .int .i64 0, .int .i64 0, .int .i64 0, .int .i64 0, .int .i64 0, .int .i64 0, .bool false, .int .i64 0, .bool false, .slice none 0 0, .slice none 0 0] 25 (0, 0))) := ⟨by rw [hw]; exact set12 K6.out⟩; replace B : Aside0 (Below w.heap.size w vS) := ⟨by rw [hw]; refine below_set ?_ G6.out; refine below_set ?_ G6.out; refine below_set ?_ G6.out; refine below_set ?_ G6.out; refine below_set ?_ G6.out; refine below_set ?_ G6.out; refine below_set ?_ G6.out; refine below_set ?_ G6.out; refine below_set ?_ G6.out; refine below_set ?_ G6.out; refine below_set ?_ G6.out; refine below_set ?_ G6.out; exact B.out⟩; clear hw; skip))
        refine bodyPost_ret (results_ct rfl _ _ g6 25 #[.int .i64 0, .int .i64 0, .int .i64 0, .int .i64 0, .int .i64 0, .int .i64 0, .int .i64 0, .bool false, .int .i64 0, .bool false, .slice none 0 0, .slice none 0 0] (0, 0) _ rfl K6.out Try.underlying25 rfl (by kernel_rfl)) rfl ?_
        exact ⟨.slice none 0 0, .slice none 0 0, (by first | rfl | (simp; done) | (simp [*]; done) | (simp [errW_none, errW_some] <;> rfl) | (simp [*, errW_none, errW_some] <;> rfl)), Kd.R_nil _ _ _ _ _, Kd.R_nil _ _ _ _ _, B.out⟩
      rw [if_neg c4] at H
      have c4b : decide ((l0.length : Int) < n) = false := decide_eq_false c4
      have HN0 := Aside0.mk (show 20 ≤ n from by omega)
      have HN1 := Aside0.mk (show n ≤ (l0.length : Int) from by omega)
      clear c3 c4
      replace H := Option.bind_eq_some_iff.mp H; obtain ⟨t, At, H⟩ := H
      have E1 := Aside0.mk At
      clear At
      by_cases c5 : t.length + l0.length < 140737488355328
      rotate_left
      · rw [if_neg c5] at H
        cases H
      rw [if_pos c5] at H
      have HLT := Aside0.mk c5
      clear c5
      replace H := Option.bind_eq_some_iff.mp H; obtain ⟨c, Ac, H⟩ := H
      have E2 := Aside0.mk Ac
      clear Ac
      obtain ⟨yt, hyt⟩ : ∃ y_ : List Int, y_ = t ++ l0 := ⟨_, rfl⟩
      rw [← hyt] at E2
      have HYT := Aside0.mk hyt
      clear hyt
      go_upto_region 11 with (fail)
      clear hx12 q12 q12i hnw hnw2 hnw3
      by_cases c6 : c = 0
      rotate_left
      · rw [if_neg c6] at H
        have c6b : ((c) == 0) = false := beq_eq_false_iff_ne.mpr c6
        have c6c : ((c) != 0) = true := bne_iff_ne.mpr c6
        clear c6
        simp only [Option.some.injEq, Prod.mk.injEq] at H
        obtain ⟨rfl, rfl, rfl, rfl, rfl, rfl, rfl, rfl, rfl, rfl, rfl, rfl, rfl⟩ := H
        go_wp2_with (first
            | ((with_reducible refine gate_callee (f := 30) rfl ?_); refine goesL_ (some 54) rfl rfl Try.func30 (by kernel_rfl) rfl #[.int .i64 a1, .int .i64 a2, .int .i64 6, .int .i64 (l0.length : Int)] rfl wT ?_; (with_reducible refine (impl_FalseHead.calls k a1 a2 6 (l0.length : Int) t _ E1.out).mono ?_); rintro e v6 ⟨vt, rfl, ht, hb⟩; refine ⟨_, rfl, ?_⟩; have T : Aside0 (Kd.R (Kd.int .u8) 5 v6 w.heap.size (fun k_ => w.heap.size ≤ k_) vt t) := ⟨Kd.R_mono (Kd.R_lower (Kd.R_newM (M := fun k_ => w.heap.size ≤ k_) ht B.out.size (fun _ h_ => h_)) B.out.size) (fun _ h_ => h_.1)⟩; replace B := Aside0.mk (below_step B.out hb); replace K6 := Aside0.mk (blk_below K6.out hb); replace K8 := Aside0.mk (blk_below K8.out hb); replace K9 := Aside0.mk (blk_below K9.out hb); clear hb ht)
            | ((with_reducible refine gate_builtin (b := .append) (xs := #[.tmp 54, .tmp 55]) rfl ?_); at_builtin; refine Kd.R_append_rows (Kd.int .u8) (w0 := w) w.heap.size rfl (.tmp 54) (.tmp 55) 22 5 (.int .u8 0) 1 rfl Try.underlying22 info5 rfl (by decide) (by omega) vt t l0 _ _ _ (fun k_ => w.heap.size ≤ k_) (fun _ => False) rfl rfl ?aO ?aR (fun _ _ h => h) (fun _ h => h.elim) ?aF ?aB ?aS ?aL ?_; (case aR => exact Kd.C_below HR0.out B.out); (case aB => exact B.out); (case aF => exact (fun k_ hk => (Nat.le_trans B.out.size hk))); (case aO => exact T.out); (case aS => exact B.out.size); (case aL => have := HLT.out; omega); intro v1_ v7 ho hb hg hat; rw [← HYT.out] at ho; replace K6 := Aside0.mk (blk_grown K6.out hg (Kd.R_ne T.out K6.out (by decide))); replace K8 := Aside0.mk (blk_grown K8.out hg (Kd.R_ne T.out K8.out (by decide))); replace K9 := Aside0.mk (blk_grown K9.out hg (Kd.R_ne T.out K9.out (by decide))); replace B := Aside0.mk hb; clear T; have T := Aside0.mk ho; clear ho hb hg hat; obtain ⟨At, ct, et⟩ := Kd.R_slice T.out; subst et)
            | ((with_reducible refine gate_callee (f := 29) rfl ?_); refine goesL_ (some 57) rfl rfl Try.func29 (by kernel_rfl) rfl #[.slice At yt.length ct] rfl wT ?_; (with_reducible refine (impl_Checksum.calls k _ _ yt c _ ?side1 ?side2 E2.out).mono ?_); (case side1 => exact (Kd.R_reads' T.out).2.2); (case side2 => exact (Kd.R_reads' T.out).2.1); rintro e v8 ⟨rfl, dd⟩; refine ⟨_, rfl, ?_⟩; have hb := dd.below; replace B := Aside0.mk (below_step B.out hb); replace K6 := Aside0.mk (blk_below K6.out hb); replace K8 := Aside0.mk (blk_below K8.out hb); replace K9 := Aside0.mk (blk_below K9.out hb); clear hb dd T; obtain ⟨⟨hcza_0, hcza_1, hcza_2, hcza_3, hcza_4, hcza_5, hcza_6, hcza_7, hcza_8, hcza_9, hcza_10, hcza_11⟩, hfza_0, hfza_1, hfza_2, hfza_3, hfza_4, hfza_5, hfza_6, hfza_7, hfza_8, hfza_9, hfza_10, hfza_11⟩ := cells12 K6.out; obtain ⟨⟨hczb_0, hczb_1, hczb_2, hczb_3, hczb_4, hczb_5, hczb_6, hczb_7, hczb_8, hczb_9, hczb_10, hczb_11⟩, hfzb_0, hfzb_1, hfzb_2, hfzb_3, hfzb_4, hfzb_5, hfzb_6, hfzb_7, hfzb_8, hfzb_9, hfzb_10, hfzb_11⟩ := cells12 K9.out)
            | ((with_reducible refine gate_store (t := 25) (p := 6) rfl ?_); refine store_event (t := 25) (p := 6) (v := ?vo_7) (w1 := put12 v8 g6 (.int .i64 0) (.int .i64 0) (.int .i64 0) (.int .i64 0) (.int .i64 0) (.int .i64 0) (.int .i64 0) (.bool false) (.int .i64 0) (.bool false) (.slice none 0 0) (.slice none 0 0)) ?hg ?ho ?hn ?hr ?_; (case ho => rfl); (case hg => rfl); (case hn => rfl); (case hr => first | (go_simp; done) | (go_simp; rfl)); intro vS hw; replace K6 : Aside0 (vS.heap[g6]? = some (.cells #[.int .i64 0, .int .i64 0, .int .i64 0, .int .i64 0, .int .i64 0, .int .i64 0, .int .i64 0, .bool false, .int .i64 0, .bool false, .slice none 0 0, .slice none 0 0] 25 (0, 0))) := ⟨by rw [hw]; exact set12 K6.out⟩; replace B : Aside0 (Below w.heap.size w vS) := ⟨by rw [hw]; refine below_set ?_ G6.out; refine below_set ?_ G6.out; refine below_set ?_ G6.out; refine below_set ?_ G6.out; refine below_set ?_ G6.out; refine below_set ?_ G6.out; refine below_set ?_ G6.out; refine below_set ?_ G6.out; refine below_set ?_ G6.out; refine below_set ?_ G6.out; refine below_set ?_ G6.out; refine below_set ?_ G6.out; exact B.out⟩; clear hw; skip))
        refine bodyPost_ret (results_ct rfl _ _ g6 25 #[.int .i64 0, .int .i64 0, .int .i64 0, .int .i64 0, .int .i64 0, .int .i64 0, .int .i64 0, .bool false, .int .i64 0, .bool false, .slice none 0 0, .slice none 0 0] (0, 0) _ rfl K6.out Try.underlying25 rfl (by kernel_rfl)) rfl ?_
        exact ⟨.slice none 0 0, .slice none 0 0, (by first | rfl | (simp; done) | (simp [*]; done) | (simp [errW_none, errW_some] <;> rfl) | (simp [*, errW_none, errW_some] <;> rfl)), Kd.R_nil _ _ _ _ _, Kd.R_nil _ _ _ _ _, B.out⟩
      exact absurd (⟨P1.out, P2.out, by have := HL.out; omega, by have := HU.out; omega, by rw [← HNN.out]; have := HN0.out; omega, by rw [← HNN.out]; have := HN1.out; omega, t, E1.out, by rw [← HYT.out, E2.out, c6]⟩ : impl_DecodeSegment.Good k l0 a1 a2) HG.out
set_option maxHeartbeats 60000000 in
set_option maxRecDepth 100000 in
theorem impl_DecodeSegment.main (k : Nat) (A0 : Option Addr) (c0 : Nat) (l0 : List Int) (a1 a2 : Int) (r0 : Int) (r1 : Int) (r2 : Int) (r3 : Int) (r4 : Int) (r5 : Int) (r6 : Int) (r7 : Bool) (r8 : Int) (r9 : Bool) (r10 : List (S60)) (r11 : List Int) (r12 : Int) (w : World) (hr0 : Kd.C (Kd.int .u8) w A0 l0.length l0) (hc0 : l0.length ≤ c0) (h : impl_DecodeSegment.f k l0 a1 a2 = some (r0, r1, r2, r3, r4, r5, r6, r7, r8, r9, r10, r11, r12)) (hG : impl_DecodeSegment.Good k l0 a1 a2) :
    Calls Try.prog 7 #[.slice A0 l0.length c0, .int .i64 a1, .int .i64 a2] w (impl_DecodeSegment.Post r0 r1 r2 r3 r4 r5 r6 r7 r8 r9 r10 r11 r12 w) := by
  have hu25 := Try.underlying25
  have hu60 := Try.underlying60
  have HR0 := Aside0.mk hr0
  have HC0 := Aside0.mk hc0
  clear hr0 hc0
  have H' := Aside0.mk h
  have HG := Aside0.mk hG
  clear h hG
  have B := Aside0.mk (Below.refl w.heap.size w)
  go_enter Try.func7, Try.ntmps7
  go_upto_region 2 with (first
    | ((with_reducible refine gate_dst (N := 6) rfl ?_); refine box_event ?hg (N := 6) ?hd (cs := #[.int .i64 0, .int .i64 0, .int .i64 0, .int .i64 0, .int .i64 0, .int .i64 0, .int .i64 0, .bool false, .int .i64 0, .bool false, .slice none 0 0, .slice none 0 0]) (t := 25) ?hr ?_; (case hd => rfl); (case hg => rfl); (case hr => first | (go_simp; done) | (go_simp; rfl)); intro g6 hg v1 hbox hb; have K6 := Aside0.mk (show v1.heap[g6]? = some (.cells #[.int .i64 0, .int .i64 0, .int .i64 0, .int .i64 0, .int .i64 0, .int .i64 0, .int .i64 0, .bool false, .int .i64 0, .bool false, .slice none 0 0, .slice none 0 0] 25 (0, 0)) from hbox); have G6 := Aside0.mk ((by rw [hg]; exact B.out.size) : w.heap.size ≤ g6); skip; replace B := Aside0.mk (below_step B.out hb); clear hb hbox hg)
    | ((with_reducible refine gate_dst (N := 8) rfl ?_); refine box_event ?hg (N := 8) ?hd (cs := #[.int .i64 0, .int .i64 0, .int .i64 0, .int .i64 0, .int .i64 0, .int .i64 0, .int .i64 0, .bool false, .int .i64 0, .bool false, .slice none 0 0, .slice none 0 0]) (t := 25) ?hr ?_; (case hd => rfl); (case hg => rfl); (case hr => first | (go_simp; done) | (go_simp; rfl)); intro g8 hg v2 hbox hb; have K8 := Aside0.mk (show v2.heap[g8]? = some (.cells #[.int .i64 0, .int .i64 0, .int .i64 0, .int .i64 0, .int .i64 0, .int .i64 0, .int .i64 0, .bool false, .int .i64 0, .bool false, .slice none 0 0, .slice none 0 0] 25 (0, 0)) from hbox); have G8 := Aside0.mk ((by rw [hg]; exact B.out.size) : w.heap.size ≤ g8); have N68 := Aside0.mk ((by rw [hg]; exact Nat.ne_of_lt (blk_lt K6.out)) : g6 ≠ g8); replace B := Aside0.mk (below_step B.out hb); replace K6 := Aside0.mk (blk_below K6.out hb); clear hb hbox hg)
    | ((with_reducible refine gate_dst (N := 9) rfl ?_); refine box_event ?hg (N := 9) ?hd (cs := #[.int .i64 0, .int .i64 0, .int .i64 0, .int .i64 0, .int .i64 0, .int .i64 0, .int .i64 0, .bool false, .int .i64 0, .bool false, .slice none 0 0, .slice none 0 0]) (t := 25) ?hr ?_; (case hd => rfl); (case hg => rfl); (case hr => first | (go_simp; done) | (go_simp; rfl)); intro g9 hg v3 hbox hb; have K9 := Aside0.mk (show v3.heap[g9]? = some (.cells #[.int .i64 0, .int .i64 0, .int .i64 0, .int .i64 0, .int .i64 0, .int .i64 0, .int .i64 0, .bool false, .int .i64 0, .bool false, .slice none 0 0, .slice none 0 0] 25 (0, 0)) from hbox); have G9 := Aside0.mk ((by rw [hg]; exact B.out.size) : w.heap.size ≤ g9); have N69 := Aside0.mk ((by rw [hg]; exact Nat.ne_of_lt (blk_lt K6.out)) : g6 ≠ g9); have N89 := Aside0.mk ((by rw [hg]; exact Nat.ne_of_lt (blk_lt K8.out)) : g8 ≠ g9); replace B := Aside0.mk (below_step B.out hb); replace K6 := Aside0.mk (blk_below K6.out hb); replace K8 := Aside0.mk (blk_below K8.out hb); clear hb hbox hg))
  have H := H'.out
  clear H'
  unfold impl_DecodeSegment.f at H
  replace H := Option.bind_eq_some_iff.mp H; obtain ⟨p, Ap, H⟩ := H
  have P1 := Aside0.mk Ap
  clear Ap
  cases p with
  | false =>
    exact absurd (P1.out.symm.trans HG.out.1) (by decide)
  | true =>
    rw [if_pos rfl] at H
    replace H := Option.bind_eq_some_iff.mp H; obtain ⟨q, Aq, H⟩ := H
    have P2 := Aside0.mk Aq
    clear Aq
    cases q with
    | false =>
      exact absurd (P2.out.symm.trans HG.out.2.1) (by decide)
    | true =>
      rw [if_pos rfl] at H
      unfold impl_DecodeSegment.g at H
      by_cases c1 : (l0.length : Int) < 20
      · exact absurd c1 HG.out.2.2.1
      rw [if_neg c1] at H
      have c1b : decide ((l0.length : Int) < 20) = false := decide_eq_false c1
      have c1c : decide (l0.length < 20) = false := decide_eq_false (by omega)
      by_cases c2 : 65515 < (l0.length : Int)
      · exact absurd c2 HG.out.2.2.2.1
      rw [if_neg c2] at H
      have c2b : decide (65515 < (l0.length : Int)) = false := decide_eq_false c2
      have c2c : decide (65515 < l0.length) = false := decide_eq_false (by omega)
      have HL := Aside0.mk c1
      have HU := Aside0.mk c2
      clear c1 c2
      obtain ⟨ad, ead, hx12⟩ := Kd.at_int (Kd.C_below HR0.out B.out) 12 (by omega) (by have := HL.out; omega)
      subst ead
      simp only [show (12 : Int).toNat = 12 from rfl, Nat.reduceMul, Nat.reduceEqDiff, Go.Addr.add, ↓reduceIte] at hx12
      have HX12 := Aside0.mk hx12
      clear hx12
      go_upto_region 8 with (first
          | ((with_reducible refine gate_callee (f := 28) rfl ?_); refine goesL_ (some 17) rfl rfl Try.func28 (by kernel_rfl) rfl #[.int .i64 a1] rfl wT ?_; (with_reducible refine (impl_isAddr.calls a1 true _ P1.out).mono ?_); rintro e v4 ⟨rfl, dd⟩; refine ⟨_, rfl, ?_⟩; have hb := dd.below; replace B := Aside0.mk (below_step B.out hb); replace K6 := Aside0.mk (blk_below K6.out hb); replace K8 := Aside0.mk (blk_below K8.out hb); replace K9 := Aside0.mk (blk_below K9.out hb); clear hb dd; skip)
          | (go_at_call 28; (with_reducible refine (impl_isAddr.calls a2 true _ P2.out).mono ?_); rintro e v5 ⟨rfl, dd⟩; have hb := dd.below; replace B := Aside0.mk (below_step B.out hb); replace K6 := Aside0.mk (blk_below K6.out hb); replace K8 := Aside0.mk (blk_below K8.out hb); replace K9 := Aside0.mk (blk_below K9.out hb); clear hb dd; obtain ⟨⟨hcza_0, hcza_1, hcza_2, hcza_3, hcza_4, hcza_5, hcza_6, hcza_7, hcza_8, hcza_9, hcza_10, hcza_11⟩, hfza_0, hfza_1, hfza_2, hfza_3, hfza_4, hfza_5, hfza_6, hfza_7, hfza_8, hfza_9, hfza_10, hfza_11⟩ := cells12 K6.out; obtain ⟨⟨hczb_0, hczb_1, hczb_2, hczb_3, hczb_4, hczb_5, hczb_6, hczb_7, hczb_8, hczb_9, hczb_10, hczb_11⟩, hfzb_0, hfzb_1, hfzb_2, hfzb_3, hfzb_4, hfzb_5, hfzb_6, hfzb_7, hfzb_8, hfzb_9, hfzb_10, hfzb_11⟩ := cells12 K9.out))
      clear hcza_0 hfza_0 hcza_1 hfza_1 hcza_2 hfza_2 hcza_3 hfza_3 hcza_4 hfza_4 hcza_5 hfza_5 hcza_6 hfza_6 hcza_7 hfza_7 hcza_8 hfza_8 hcza_9 hfza_9 hcza_10 hfza_10 hcza_11 hfza_11 hczb_0 hfzb_0 hczb_1 hfzb_1 hczb_2 hfzb_2 hczb_3 hfzb_3 hczb_4 hfzb_4 hczb_5 hfzb_5 hczb_6 hfzb_6 hczb_7 hfzb_7 hczb_8 hfzb_8 hczb_9 hfzb_9 hczb_10 hfzb_10 hczb_11 hfzb_11
      obtain ⟨n, hn⟩ : ∃ n_ : Int, n_ = wrap64 ((wrap64 ((rd l0 12) / 16)) * 4) := ⟨_, rfl⟩
      rw [← hn] at H
      have hnw : wrap64 ((wrap64 ((rd l0 12) / 16)) * 4) = n := hn.symm
      have hnw2 : IntKind.i64.wrap ((IntKind.i64.wrap ((rd l0 12) / 16)) * 4) = n := by simp only [i64_w]; exact hnw
      have hnw3 : IntKind.i64.wrap ((wrap64 ((rd l0 12) / 16)) * 4) = n := by simp only [i64_w]; exact hnw
      have HNN := Aside0.mk hn
      clear hn
      obtain ⟨ad2, ead, hx12⟩ := Kd.at_int (Kd.C_below HR0.out B.out) 12 (by omega) (by have := HL.out; omega)
      obtain rfl : ad = ad2 := (by injection ead)
      simp only [show (12 : Int).toNat = 12 from rfl, Nat.reduceMul, Nat.reduceEqDiff, Go.Addr.add, ↓reduceIte] at hx12
      clear ead HX12
      have q12 : (12 < l0.length) = True := eq_true (by have := HL.out; omega)
      have q12i : ((12 : Int) < (l0.length : Int)) = True := eq_true (by have := HL.out; omega)
      unfold impl_DecodeSegment.s at H
      by_cases c3 : n < 20
      · exact absurd c3 (by rw [HNN.out]; exact HG.out.2.2.2.2.1)
      rw [if_neg c3] at H
      have c3b : decide (n < 20) = false := decide_eq_false c3
      by_cases c4 : (l0.length : Int) < n
      · exact absurd c4 (by rw [HNN.out]; exact HG.out.2.2.2.2.2.1)
      rw [if_neg c4] at H
      have c4b : decide ((l0.length : Int) < n) = false := decide_eq_false c4
      have HN0 := Aside0.mk (show 20 ≤ n from by omega)
      have HN1 := Aside0.mk (show n ≤ (l0.length : Int) from by omega)
      clear c3 c4
      replace H := Option.bind_eq_some_iff.mp H; obtain ⟨t, At, H⟩ := H
      have E1 := Aside0.mk At
      clear At
      by_cases c5 : t.length + l0.length < 140737488355328
      rotate_left
      · rw [if_neg c5] at H
        cases H
      rw [if_pos c5] at H
      have HLT := Aside0.mk c5
      clear c5
      replace H := Option.bind_eq_some_iff.mp H; obtain ⟨c, Ac, H⟩ := H
      have E2 := Aside0.mk Ac
      clear Ac
      obtain ⟨yt, hyt⟩ : ∃ y_ : List Int, y_ = t ++ l0 := ⟨_, rfl⟩
      rw [← hyt] at E2
      have HYT := Aside0.mk hyt
      clear hyt
      go_upto_region 11 with (fail)
      clear hx12 q12 q12i hnw hnw2 hnw3
      by_cases c6 : c = 0
      rotate_left
      · obtain ⟨t_, e1, e2⟩ := HG.out.2.2.2.2.2.2
        rw [E1.out] at e1
        obtain rfl := Option.some.inj e1
        rw [← HYT.out, E2.out] at e2
        exact absurd (Option.some.inj e2) c6
      rw [if_pos c6] at H
      have c6b : ((c) == 0) = true := beq_iff_eq.mpr c6
      have c6c : ((c) != 0) = false := bne_eq_false_iff_eq.mpr c6
      clear c6
      go_upto_region 13 with (first
          | ((with_reducible refine gate_callee (f := 30) rfl ?_); refine goesL_ (some 54) rfl rfl Try.func30 (by kernel_rfl) rfl #[.int .i64 a1, .int .i64 a2, .int .i64 6, .int .i64 (l0.length : Int)] rfl wT ?_; (with_reducible refine (impl_FalseHead.calls k a1 a2 6 (l0.length : Int) t _ E1.out).mono ?_); rintro e v6 ⟨vt, rfl, ht, hb⟩; refine ⟨_, rfl, ?_⟩; have T : Aside0 (Kd.R (Kd.int .u8) 5 v6 w.heap.size (fun k_ => w.heap.size ≤ k_) vt t) := ⟨Kd.R_mono (Kd.R_lower (Kd.R_newM (M := fun k_ => w.heap.size ≤ k_) ht B.out.size (fun _ h_ => h_)) B.out.size) (fun _ h_ => h_.1)⟩; replace B := Aside0.mk (below_step B.out hb); replace K6 := Aside0.mk (blk_below K6.out hb); replace K8 := Aside0.mk (blk_below K8.out hb); replace K9 := Aside0.mk (blk_below K9.out hb); clear hb ht)
          | ((with_reducible refine gate_builtin (b := .append) (xs := #[.tmp 54, .tmp 55]) rfl ?_); at_builtin; refine Kd.R_append_rows (Kd.int .u8) (w0 := w) w.heap.size rfl (.tmp 54) (.tmp 55) 22 5 (.int .u8 0) 1 rfl Try.underlying22 info5 rfl (by decide) (by omega) vt t l0 _ _ _ (fun k_ => w.heap.size ≤ k_) (fun _ => False) rfl rfl ?aO ?aR (fun _ _ h => h) (fun _ h => h.elim) ?aF ?aB ?aS ?aL ?_; (case aR => exact Kd.C_below HR0.out B.out); (case aB => exact B.out); (case aF => exact (fun k_ hk => (Nat.le_trans B.out.size hk))); (case aO => exact T.out); (case aS => exact B.out.size); (case aL => have := HLT.out; omega); intro v1_ v7 ho hb hg hat; rw [← HYT.out] at ho; replace K6 := Aside0.mk (blk_grown K6.out hg (Kd.R_ne T.out K6.out (by decide))); replace K8 := Aside0.mk (blk_grown K8.out hg (Kd.R_ne T.out K8.out (by decide))); replace K9 := Aside0.mk (blk_grown K9.out hg (Kd.R_ne T.out K9.out (by decide))); replace B := Aside0.mk hb; clear T; have T := Aside0.mk ho; clear ho hb hg hat; obtain ⟨At, ct, et⟩ := Kd.R_slice T.out; subst et)
          | ((with_reducible refine gate_callee (f := 29) rfl ?_); refine goesL_ (some 57) rfl rfl Try.func29 (by kernel_rfl) rfl #[.slice At yt.length ct] rfl wT ?_; (with_reducible refine (impl_Checksum.calls k _ _ yt c _ ?side1 ?side2 E2.out).mono ?_); (case side1 => exact (Kd.R_reads' T.out).2.2); (case side2 => exact (Kd.R_reads' T.out).2.1); rintro e v8 ⟨rfl, dd⟩; refine ⟨_, rfl, ?_⟩; have hb := dd.below; replace B := Aside0.mk (below_step B.out hb); replace K6 := Aside0.mk (blk_below K6.out hb); replace K8 := Aside0.mk (blk_below K8.out hb); replace K9 := Aside0.mk (blk_below K9.out hb); clear hb dd T; skip))
      unfold impl_DecodeSegment.t at H
      replace H := Option.bind_eq_some_iff.mp H; obtain ⟨t0, Ax, H⟩ := H
      have Fg0 := Aside0.mk Ax
      clear Ax
      replace H := Option.bind_eq_some_iff.mp H; obtain ⟨t1, Ax, H⟩ := H
      have Fg1 := Aside0.mk Ax
      clear Ax
      replace H := Option.bind_eq_some_iff.mp H; obtain ⟨t2, Ax, H⟩ := H
      have Fg2 := Aside0.mk Ax
      clear Ax
      replace H := Option.bind_eq_some_iff.mp H; obtain ⟨t3, Ax, H⟩ := H
      have Fg3 := Aside0.mk Ax
      clear Ax
      replace H := Option.bind_eq_some_iff.mp H; obtain ⟨t5, Ax, H⟩ := H
      have Fg5 := Aside0.mk Ax
      clear Ax
      replace H := Option.bind_eq_some_iff.mp H; obtain ⟨d, Ax, H⟩ := H
      have Fgd := Aside0.mk Ax
      clear Ax
      have HF := Aside0.mk H
      clear H
      obtain ⟨ig0, hig0, _, hszg0, _⟩ := info_parts info5
      have qcg0 : (2 : Int) ≤ (l0.length : Int) := (by have := HL.out; omega)
      have hcutg0 := cut_to (P := Try.prog) 22 5 .i64 Try.underlying22 hig0 (some ad) l0.length c0 2 (by omega) qcg0 HC0.out
      obtain ⟨yg0, hyg0⟩ : ∃ y_ : List Int, y_ = l0.take (2 : Int).toNat := ⟨_, rfl⟩
      have hlg0 : yg0.length = (2 : Int).toNat := by rw [hyg0, List.length_take]; omega
      rw [← hlg0] at hcutg0
      have HYg0 := Aside0.mk (show Kd.C (Kd.int .u8) w (some ad) yg0.length yg0 from by rw [hyg0]; exact Kd.C_take HR0.out (by omega))
      have HCg0 := Aside0.mk (show yg0.length ≤ c0 from by have := HC0.out; omega)
      have HEg0 := Aside0.mk hyg0
      clear hig0 hszg0 hyg0 hlg0
      replace qcg0 := eq_true qcg0
      replace Fg0 : Aside0 (impl_get.f k yg0 = some t0) := ⟨by have h_ := Fg0.out; rw [show l0.take 2 = yg0 from HEg0.out.symm] at h_; exact h_⟩
      obtain ⟨ig1, hig1, _, hszg1, _⟩ := info_parts info5
      have qag1 : (0 : Int) ≤ (2 : Int) := (by omega)
      have qbg1 : (2 : Int) ≤ (4 : Int) := (by omega)
      have qcg1 : (4 : Int) ≤ (l0.length : Int) := (by have := HL.out; omega)
      have hcutg1 := cut_mid (P := Try.prog) 22 5 .i64 .i64 Try.underlying22 hig1 1 hszg1 (some ad) l0.length c0 2 4 qag1 qbg1 qcg1 HC0.out
      have hrg1 := Kd.C_mid (lo := (2 : Int).toNat) (hi := (4 : Int).toNat) (c := c0) HR0.out (by omega) (by omega) HC0.out
      obtain ⟨Ag1, hAg1⟩ : ∃ Aq_, Aq_ = (if c0 = (2 : Int).toNat then (some ad) else ((some ad) : Option Addr).map (·.add ((2 : Int).toNat * 1))) := ⟨_, rfl⟩
      obtain ⟨cg1, hcg1⟩ : ∃ cq_, cq_ = c0 - (2 : Int).toNat := ⟨_, rfl⟩
      obtain ⟨yg1, hyg1⟩ : ∃ y_ : List Int, y_ = (l0.take (4 : Int).toNat).drop (2 : Int).toNat := ⟨_, rfl⟩
      have hlg1 : yg1.length = (4 : Int).toNat - (2 : Int).toNat := by rw [hyg1, List.length_drop, List.length_take]; omega
      rw [← hyg1] at hrg1
      replace hrg1 : Kd.C (Kd.int .u8) w Ag1 yg1.length yg1 := by rw [hAg1]; exact hrg1
      rw [← hlg1, ← hAg1, ← hcg1] at hcutg1
      have HYg1 := Aside0.mk hrg1
      have HCg1 := Aside0.mk (show yg1.length ≤ cg1 from by have := HC0.out; rw [hlg1, hcg1]; omega)
      have HEg1 := Aside0.mk hyg1
      have HLg1 := Aside0.mk hlg1
      clear hrg1 hig1 hszg1 hcg1 hyg1 hlg1 hAg1
      replace qag1 := eq_true qag1
      replace qbg1 := eq_true qbg1
      replace qcg1 := eq_true qcg1
      replace Fg1 : Aside0 (impl_get.f k yg1 = some t1) := ⟨by have h_ := Fg1.out; rw [show (l0.take 4).drop 2 = yg1 from HEg1.out.symm] at h_; exact h_⟩
      obtain ⟨ig2, hig2, _, hszg2, _⟩ := info_parts info5
      have qag2 : (0 : Int) ≤ (4 : Int) := (by omega)
      have qbg2 : (4 : Int) ≤ (8 : Int) := (by omega)
      have qcg2 : (8 : Int) ≤ (l0.length : Int) := (by have := HL.out; omega)
      have hcutg2 := cut_mid (P := Try.prog) 22 5 .i64 .i64 Try.underlying22 hig2 1 hszg2 (some ad) l0.length c0 4 8 qag2 qbg2 qcg2 HC0.out
      have hrg2 := Kd.C_mid (lo := (4 : Int).toNat) (hi := (8 : Int).toNat) (c := c0) HR0.out (by omega) (by omega) HC0.out
      obtain ⟨Ag2, hAg2⟩ : ∃ Aq_, Aq_ = (if c0 = (4 : Int).toNat then (some ad) else ((some ad) : Option Addr).map (·.add ((4 : Int).toNat * 1))) := ⟨_, rfl⟩
      obtain ⟨cg2, hcg2⟩ : ∃ cq_, cq_ = c0 - (4 : Int).toNat := ⟨_, rfl⟩
      obtain ⟨yg2, hyg2⟩ : ∃ y_ : List Int, y_ = (l0.take (8 : Int).toNat).drop (4 : Int).toNat := ⟨_, rfl⟩
      have hlg2 : yg2.length = (8 : Int).toNat - (4 : Int).toNat := by rw [hyg2, List.length_drop, List.length_take]; omega
      rw [← hyg2] at hrg2
      replace hrg2 : Kd.C (Kd.int .u8) w Ag2 yg2.length yg2 := by rw [hAg2]; exact hrg2
      rw [← hlg2, ← hAg2, ← hcg2] at hcutg2
      have HYg2 := Aside0.mk hrg2
      have HCg2 := Aside0.mk (show yg2.length ≤ cg2 from by have := HC0.out; rw [hlg2, hcg2]; omega)
      have HEg2 := Aside0.mk hyg2
      have HLg2 := Aside0.mk hlg2
      clear hrg2 hig2 hszg2 hcg2 hyg2 hlg2 hAg2
      replace qag2 := eq_true qag2
      replace qbg2 := eq_true qbg2
      replace qcg2 := eq_true qcg2
      replace Fg2 : Aside0 (impl_get.f k yg2 = some t2) := ⟨by have h_ := Fg2.out; rw [show (l0.take 8).drop 4 = yg2 from HEg2.out.symm] at h_; exact h_⟩
      obtain ⟨ig3, hig3, _, hszg3, _⟩ := info_parts info5
      have qag3 : (0 : Int) ≤ (8 : Int) := (by omega)
      have qbg3 : (8 : Int) ≤ (12 : Int) := (by omega)
      have qcg3 : (12 : Int) ≤ (l0.length : Int) := (by have := HL.out; omega)
      have hcutg3 := cut_mid (P := Try.prog) 22 5 .i64 .i64 Try.underlying22 hig3 1 hszg3 (some ad) l0.length c0 8 12 qag3 qbg3 qcg3 HC0.out
      have hrg3 := Kd.C_mid (lo := (8 : Int).toNat) (hi := (12 : Int).toNat) (c := c0) HR0.out (by omega) (by omega) HC0.out
      obtain ⟨Ag3, hAg3⟩ : ∃ Aq_, Aq_ = (if c0 = (8 : Int).toNat then (some ad) else ((some ad) : Option Addr).map (·.add ((8 : Int).toNat * 1))) := ⟨_, rfl⟩
      obtain ⟨cg3, hcg3⟩ : ∃ cq_, cq_ = c0 - (8 : Int).toNat := ⟨_, rfl⟩
      obtain ⟨yg3, hyg3⟩ : ∃ y_ : List Int, y_ = (l0.take (12 : Int).toNat).drop (8 : Int).toNat := ⟨_, rfl⟩
      have hlg3 : yg3.length = (12 : Int).toNat - (8 : Int).toNat := by rw [hyg3, List.length_drop, List.length_take]; omega
      rw [← hyg3] at hrg3
      replace hrg3 : Kd.C (Kd.int .u8) w Ag3 yg3.length yg3 := by rw [hAg3]; exact hrg3
      rw [← hlg3, ← hAg3, ← hcg3] at hcutg3
      have HYg3 := Aside0.mk hrg3
      have HCg3 := Aside0.mk (show yg3.length ≤ cg3 from by have := HC0.out; rw [hlg3, hcg3]; omega)
      have HEg3 := Aside0.mk hyg3
      have HLg3 := Aside0.mk hlg3
      clear hrg3 hig3 hszg3 hcg3 hyg3 hlg3 hAg3
      replace qag3 := eq_true qag3
      replace qbg3 := eq_true qbg3
      replace qcg3 := eq_true qcg3
      replace Fg3 : Aside0 (impl_get.f k yg3 = some t3) := ⟨by have h_ := Fg3.out; rw [show (l0.take 12).drop 8 = yg3 from HEg3.out.symm] at h_; exact h_⟩
      obtain ⟨ig5, hig5, _, hszg5, _⟩ := info_parts info5
      have qag5 : (0 : Int) ≤ (14 : Int) := (by omega)
      have qbg5 : (14 : Int) ≤ (16 : Int) := (by omega)
      have qcg5 : (16 : Int) ≤ (l0.length : Int) := (by have := HL.out; omega)
      have hcutg5 := cut_mid (P := Try.prog) 22 5 .i64 .i64 Try.underlying22 hig5 1 hszg5 (some ad) l0.length c0 14 16 qag5 qbg5 qcg5 HC0.out
      have hrg5 := Kd.C_mid (lo := (14 : Int).toNat) (hi := (16 : Int).toNat) (c := c0) HR0.out (by omega) (by omega) HC0.out
      obtain ⟨Ag5, hAg5⟩ : ∃ Aq_, Aq_ = (if c0 = (14 : Int).toNat then (some ad) else ((some ad) : Option Addr).map (·.add ((14 : Int).toNat * 1))) := ⟨_, rfl⟩
      obtain ⟨cg5, hcg5⟩ : ∃ cq_, cq_ = c0 - (14 : Int).toNat := ⟨_, rfl⟩
      obtain ⟨yg5, hyg5⟩ : ∃ y_ : List Int, y_ = (l0.take (16 : Int).toNat).drop (14 : Int).toNat := ⟨_, rfl⟩
      have hlg5 : yg5.length = (16 : Int).toNat - (14 : Int).toNat := by rw [hyg5, List.length_drop, List.length_take]; omega
      rw [← hyg5] at hrg5
      replace hrg5 : Kd.C (Kd.int .u8) w Ag5 yg5.length yg5 := by rw [hAg5]; exact hrg5
      rw [← hlg5, ← hAg5, ← hcg5] at hcutg5
      have HYg5 := Aside0.mk hrg5
      have HCg5 := Aside0.mk (show yg5.length ≤ cg5 from by have := HC0.out; rw [hlg5, hcg5]; omega)
      have HEg5 := Aside0.mk hyg5
      have HLg5 := Aside0.mk hlg5
      clear hrg5 hig5 hszg5 hcg5 hyg5 hlg5 hAg5
      replace qag5 := eq_true qag5
      replace qbg5 := eq_true qbg5
      replace qcg5 := eq_true qcg5
      replace Fg5 : Aside0 (impl_get.f k yg5 = some t5) := ⟨by have h_ := Fg5.out; rw [show (l0.take 16).drop 14 = yg5 from HEg5.out.symm] at h_; exact h_⟩
      obtain ⟨igd, higd, _, hszgd, _⟩ := info_parts info5
      have qagd : (0 : Int) ≤ (n : Int) := (by have := HN0.out; omega)
      have qbgd : (n : Int) ≤ (l0.length : Int) := HN1.out
      have hcutgd := cut_from (P := Try.prog) 22 5 .i64 Try.underlying22 higd 1 hszgd (some ad) l0.length c0 n qagd qbgd
      have hrgd := Kd.C_drop (m := (n : Int).toNat) (c := c0) HR0.out (by omega) HC0.out
      obtain ⟨Agd, hAgd⟩ : ∃ Aq_, Aq_ = (if c0 = (n : Int).toNat then (some ad) else ((some ad) : Option Addr).map (·.add ((n : Int).toNat * 1))) := ⟨_, rfl⟩
      obtain ⟨cgd, hcgd⟩ : ∃ cq_, cq_ = c0 - (n : Int).toNat := ⟨_, rfl⟩
      obtain ⟨ygd, hygd⟩ : ∃ y_ : List Int, y_ = l0.drop (n : Int).toNat := ⟨_, rfl⟩
      have hlgd : ygd.length = l0.length - (n : Int).toNat := by rw [hygd, List.length_drop]
      rw [← hygd] at hrgd
      replace hrgd : Kd.C (Kd.int .u8) w Agd ygd.length ygd := by rw [hAgd]; exact hrgd
      rw [← hlgd, ← hAgd, ← hcgd] at hcutgd
      have HYgd := Aside0.mk hrgd
      have HCgd := Aside0.mk (show ygd.length ≤ cgd from by have := HC0.out; rw [hlgd, hcgd]; omega)
      have HEgd := Aside0.mk hygd
      clear hrgd higd hszgd hcgd hygd hlgd hAgd
      replace qagd := eq_true qagd
      replace qbgd := eq_true qbgd
      replace Fgd : Aside0 (impl_dup.f ygd = some d) := ⟨by have h_ := Fgd.out; rw [show l0.drop n.toNat = ygd from HEgd.out.symm] at h_; exact h_⟩
      obtain ⟨ad2, ead, hx13⟩ := Kd.at_int (Kd.C_below HR0.out B.out) 13 (by omega) (by have := HL.out; omega)
      obtain rfl : ad = ad2 := (by injection ead)
      simp only [show (13 : Int).toNat = 13 from rfl, Nat.reduceMul, Nat.reduceEqDiff, Go.Addr.add, ↓reduceIte] at hx13
      clear ead
      have q13 : (13 < l0.length) = True := eq_true (by have := HL.out; omega)
      have q13i : ((13 : Int) < (l0.length : Int)) = True := eq_true (by have := HL.out; omega)
      refine start_ (n := 26) (S := fun w' => w'.cell? ⟨ad.block, ad.off + 13, none⟩ = some (.int .u8 (rd l0 13))) (ds := [25]) #[false, false, false, false, false, false, false, false, false, false, false, false, false, false, false, false, false, false, false, false, false, false, false, false, false, false] (by kernel_rfl) rfl rfl hx13 (fun hHeld => ?_)
      refine with_tabW impl_DecodeSegment.tab13 impl_DecodeSegment.bits13 (fun HT_ HW_ => ?_)
      replace B := Aside0.mk (below_drew1 B.out)
      replace K6 := Aside0.mk (blk_drew K6.out)
      replace K8 := Aside0.mk (blk_drew K8.out)
      replace K9 := Aside0.mk (blk_drew K9.out)
      generalize v8.drew = u0 at B K6 K8 K9 hHeld ⊢
      clear hx13
      refine pure_ (i := 0) (N := some 60) (v := ?_) (a' := ?_) #[true, false, false, false, false, false, false, false, false, false, false, false, false, false, false, false, false, false, false, false, false, false, false, false, false, false] rfl rfl (any_of HT_.out (by kernel_rfl)) (fun _ _ _ h => h) (Or.inl ⟨by rfl, ?_⟩) ?_ ?_
      rotate_left
      {
        intro w'
        go_simp
        with_reducible rfl
      }
      rotate_left
      {
        simp only [Act.put, List.setIfInBounds_toArray, List.set_cons_zero, List.set_cons_succ, i64_w, i32_w]
        rfl
      }
      refine pure_ (i := 1) (N := some 61) (v := ?_) (a' := ?_) #[true, true, false, false, false, false, false, false, false, false, false, false, false, false, false, false, false, false, false, false, false, false, false, false, false, false] rfl rfl (any_of HT_.out (by kernel_rfl)) (fun _ _ _ h => h) (Or.inl ⟨by rfl, ?_⟩) ?_ ?_
      rotate_left
      {
        intro w'
        go_simp
        with_reducible rfl
      }
      rotate_left
      {
        simp only [Act.put, List.setIfInBounds_toArray, List.set_cons_zero, List.set_cons_succ, i64_w, i32_w]
        rfl
      }
      refine pure_ (i := 3) (N := some 63) (v := ?_) (a' := ?_) #[true, true, false, true, false, false, false, false, false, false, false, false, false, false, false, false, false, false, false, false, false, false, false, false, false, false] rfl rfl (any_of HT_.out (by kernel_rfl)) (fun _ _ _ h => h) (Or.inl ⟨by rfl, ?_⟩) ?_ ?_
      rotate_left
      {
        intro w'
        go_simp
        with_reducible rfl
      }
      rotate_left
      {
        simp only [Act.put, List.setIfInBounds_toArray, List.set_cons_zero, List.set_cons_succ, i64_w, i32_w]
        rfl
      }
      refine pure_ (i := 4) (N := some 64) (v := ?_) (a' := ?_) #[true, true, false, true, true, false, false, false, false, false, false, false, false, false, false, false, false, false, false, false, false, false, false, false, false, false] rfl rfl (any_of HT_.out (by kernel_rfl)) (fun _ _ _ h => h) (Or.inl ⟨by rfl, ?_⟩) ?_ ?_
      rotate_left
      {
        intro w'
        go_simp
        with_reducible rfl
      }
      rotate_left
      {
        simp only [Act.put, List.setIfInBounds_toArray, List.set_cons_zero, List.set_cons_succ, i64_w, i32_w]
        rfl
      }
      refine pure_ (i := 6) (N := some 66) (v := ?_) (a' := ?_) #[true, true, false, true, true, false, true, false, false, false, false, false, false, false, false, false, false, false, false, false, false, false, false, false, false, false] rfl rfl (any_of HT_.out (by kernel_rfl)) (fun _ _ _ h => h) (Or.inl ⟨by rfl, ?_⟩) ?_ ?_
      rotate_left
      {
        intro w'
        go_simp
        with_reducible rfl
      }
      rotate_left
      {
        simp only [Act.put, List.setIfInBounds_toArray, List.set_cons_zero, List.set_cons_succ, i64_w, i32_w]
        rfl
      }
      refine pure_ (i := 7) (N := some 67) (v := ?_) (a' := ?_) #[true, true, false, true, true, false, true, true, false, false, false, false, false, false, false, false, false, false, false, false, false, false, false, false, false, false] rfl rfl (any_of HT_.out (by kernel_rfl)) (fun _ _ _ h => h) (Or.inl ⟨by rfl, ?_⟩) ?_ ?_
      rotate_left
      {
        intro w'
        go_simp
        with_reducible rfl
      }
      rotate_left
      {
        simp only [Act.put, List.setIfInBounds_toArray, List.set_cons_zero, List.set_cons_succ, i64_w, i32_w]
        rfl
      }
      refine pure_ (i := 9) (N := some 69) (v := ?_) (a' := ?_) #[true, true, false, true, true, false, true, true, false, true, false, false, false, false, false, false, false, false, false, false, false, false, false, false, false, false] rfl rfl (any_of HT_.out (by kernel_rfl)) (fun _ _ _ h => h) (Or.inl ⟨by rfl, ?_⟩) ?_ ?_
      rotate_left
      {
        intro w'
        go_simp
        with_reducible rfl
      }
      rotate_left
      {
        simp only [Act.put, List.setIfInBounds_toArray, List.set_cons_zero, List.set_cons_succ, i64_w, i32_w]
        rfl
      }
      refine pure_ (i := 10) (N := some 70) (v := ?_) (a' := ?_) #[true, true, false, true, true, false, true, true, false, true, true, false, false, false, false, false, false, false, false, false, false, false, false, false, false, false] rfl rfl (any_of HT_.out (by kernel_rfl)) (fun _ _ _ h => h) (Or.inl ⟨by rfl, ?_⟩) ?_ ?_
      rotate_left
      {
        intro w'
        go_simp
        with_reducible rfl
      }
      rotate_left
      {
        simp only [Act.put, List.setIfInBounds_toArray, List.set_cons_zero, List.set_cons_succ, i64_w, i32_w]
        rfl
      }
      refine pure_ (i := 12) (N := some 72) (v := ?_) (a' := ?_) #[true, true, false, true, true, false, true, true, false, true, true, false, true, false, false, false, false, false, false, false, false, false, false, false, false, false] rfl rfl (any_of HT_.out (by kernel_rfl)) (fun _ _ _ h => h) (Or.inl ⟨by rfl, ?_⟩) ?_ ?_
      rotate_left
      {
        intro w'
        go_simp
        with_reducible rfl
      }
      rotate_left
      {
        simp only [Act.put, List.setIfInBounds_toArray, List.set_cons_zero, List.set_cons_succ, i64_w, i32_w]
        rfl
      }
      refine pure_ (i := 13) (N := some 73) (v := ?_) (a' := ?_) #[true, true, false, true, true, false, true, true, false, true, true, false, true, true, false, false, false, false, false, false, false, false, false, false, false, false] rfl rfl (any_of HT_.out (by kernel_rfl)) (fun _ _ _ h => h) (Or.inl ⟨by rfl, ?_⟩) ?_ ?_
      rotate_left
      {
        intro w'
        go_simp
        with_reducible rfl
      }
      rotate_left
      {
        simp only [Act.put, List.setIfInBounds_toArray, List.set_cons_zero, List.set_cons_succ, i64_w, i32_w]
        rfl
      }
      refine pure_ (i := 17) (N := some 77) (v := ?_) (a' := ?_) #[true, true, false, true, true, false, true, true, false, true, true, false, true, true, false, false, false, true, false, false, false, false, false, false, false, false] rfl rfl (any_of HT_.out (by kernel_rfl)) (fun _ _ _ h => h) (Or.inl ⟨by rfl, ?_⟩) ?_ ?_
      rotate_left
      {
        intro w'
        go_simp
        with_reducible rfl
      }
      rotate_left
      {
        simp only [Act.put, List.setIfInBounds_toArray, List.set_cons_zero, List.set_cons_succ, i64_w, i32_w]
        rfl
      }
      refine pure_ (i := 18) (N := some 78) (v := ?_) (a' := ?_) #[true, true, false, true, true, false, true, true, false, true, true, false, true, true, false, false, false, true, true, false, false, false, false, false, false, false] rfl rfl (any_of HT_.out (by kernel_rfl)) (fun _ _ _ h => h) (Or.inl ⟨by rfl, ?_⟩) ?_ ?_
      rotate_left
      {
        intro w'
        go_simp
        with_reducible rfl
      }
      rotate_left
      {
        simp only [Act.put, List.setIfInBounds_toArray, List.set_cons_zero, List.set_cons_succ, i64_w, i32_w]
        rfl
      }
      refine pure_ (i := 20) (N := some 80) (v := ?_) (a' := ?_) #[true, true, false, true, true, false, true, true, false, true, true, false, true, true, false, false, false, true, true, false, true, false, false, false, false, false] rfl rfl (any_of HT_.out (by kernel_rfl)) (fun _ _ _ h => h) (Or.inl ⟨by rfl, ?_⟩) ?_ ?_
      rotate_left
      {
        intro w'
        go_simp
        with_reducible rfl
      }
      rotate_left
      {
        simp only [Act.put, List.setIfInBounds_toArray, List.set_cons_zero, List.set_cons_succ, i64_w, i32_w]
        rfl
      }
      refine pure_ (i := 21) (N := some 81) (v := ?_) (a' := ?_) #[true, true, false, true, true, false, true, true, false, true, true, false, true, true, false, false, false, true, true, false, true, true, false, false, false, false] rfl rfl (any_of HT_.out (by kernel_rfl)) (fun _ _ _ h => h) (Or.inl ⟨by rfl, ?_⟩) ?_ ?_
      rotate_left
      {
        intro w'
        go_simp
        with_reducible rfl
      }
      rotate_left
      {
        simp only [Act.put, List.setIfInBounds_toArray, List.set_cons_zero, List.set_cons_succ, i64_w, i32_w]
        rfl
      }
      refine pure_ (i := 22) (N := some 82) (v := ?_) (a' := ?_) #[true, true, false, true, true, false, true, true, false, true, true, false, true, true, false, false, false, true, true, false, true, true, true, false, false, false] rfl rfl (any_of HT_.out (by kernel_rfl)) (fun _ _ _ h => h) (Or.inl ⟨by rfl, ?_⟩) ?_ ?_
      rotate_left
      {
        intro w'
        go_simp
        with_reducible rfl
      }
      rotate_left
      {
        simp only [Act.put, List.setIfInBounds_toArray, List.set_cons_zero, List.set_cons_succ, i64_w, i32_w]
        rfl
      }
      refine take_ (i := 14) (N := some 74) (v := ?_) (a' := ?_) #[true, true, false, true, true, false, true, true, false, true, true, false, true, true, true, false, false, true, true, false, true, true, true, false, false, false] rfl rfl (take_ofW HT_.out HW_.out (by kernel_rfl)) (fun _ _ _ h => h) (Or.inl ⟨by rfl, ?_⟩) hHeld ?_ ?_
      rotate_left
      {
        intro w' s0
        go_simp
        with_reducible rfl
      }
      rotate_left
      {
        simp only [Act.put, List.setIfInBounds_toArray, List.set_cons_zero, List.set_cons_succ, i64_w, i32_w]
        rfl
      }
      refine pure_ (i := 15) (N := some 75) (v := ?_) (a' := ?_) #[true, true, false, true, true, false, true, true, false, true, true, false, true, true, true, true, false, true, true, false, true, true, true, false, false, false] rfl rfl (any_of HT_.out (by kernel_rfl)) (fun _ _ _ h => h) (Or.inl ⟨by rfl, ?_⟩) ?_ ?_
      rotate_left
      {
        intro w'
        go_simp
        with_reducible rfl
      }
      rotate_left
      {
        simp only [Act.put, List.setIfInBounds_toArray, List.set_cons_zero, List.set_cons_succ, i64_w, i32_w]
        rfl
      }
      refine pure_ (i := 16) (N := some 76) (v := ?_) (a' := ?_) #[true, true, false, true, true, false, true, true, false, true, true, false, true, true, true, true, true, true, true, false, true, true, true, false, false, false] rfl rfl (any_of HT_.out (by kernel_rfl)) (fun _ _ _ h => h) (Or.inl ⟨by rfl, ?_⟩) ?_ ?_
      rotate_left
      {
        intro w'
        go_simp
        with_reducible rfl
      }
      rotate_left
      {
        simp only [Act.put, List.setIfInBounds_toArray, List.set_cons_zero, List.set_cons_succ, i64_w, i32_w]
        rfl
      }
      refine one_ (i := 2) (N := some 62) #[true, true, true, true, true, false, true, true, false, true, true, false, true, true, true, true, true, true, true, false, true, true, true, false, false, false] rfl rfl (one_of HT_.out (by kernel_rfl)) (by decide) (fun K hK => ?_)
      refine goes_ Try.func31 (by kernel_rfl) rfl #[.slice (some ad) yg0.length c0] (by rfl) rfl rfl wT ?_
      with_reducible refine (impl_get.calls k _ _ yg0 t0 _ ?side1 ?side2 Fg0.out).mono ?_
      (case side1 => exact Kd.C_below HYg0.out B.out)
      (case side2 => exact HCg0.out)
      rintro e u1 ⟨rfl, dd⟩
      have hb := dd.below
      refine ⟨_, rfl, ?_⟩
      have hh := pw_cell_below hb hHeld
      replace B := Aside0.mk (below_step B.out hb)
      replace K6 := Aside0.mk (blk_below K6.out hb)
      replace K8 := Aside0.mk (blk_below K8.out hb)
      replace K9 := Aside0.mk (blk_below K9.out hb)
      clear hb dd hHeld
      refine hK.out _ _ hh (fun hHeld => ?_)
      clear hK K hh
      refine norm_ (a' := ?_) ?_ ?_
      rotate_left
      {
        show Act.put _ (some 62) _ = _
        simp only [Act.put, List.setIfInBounds_toArray, List.set_cons_zero, List.set_cons_succ, i64_w, i32_w]
        rfl
      }
      refine one_ (i := 5) (N := some 65) #[true, true, true, true, true, true, true, true, false, true, true, false, true, true, true, true, true, true, true, false, true, true, true, false, false, false] rfl rfl (one_of HT_.out (by kernel_rfl)) (by decide) (fun K hK => ?_)
      refine goes_ Try.func31 (by kernel_rfl) rfl #[.slice Ag1 yg1.length cg1] (by rfl) rfl rfl wT ?_
      with_reducible refine (impl_get.calls k _ _ yg1 t1 _ ?side1 ?side2 Fg1.out).mono ?_
      (case side1 => exact Kd.C_below HYg1.out B.out)
      (case side2 => exact HCg1.out)
      rintro e u2 ⟨rfl, dd⟩
      have hb := dd.below
      refine ⟨_, rfl, ?_⟩
      have hh := pw_cell_below hb hHeld
      replace B := Aside0.mk (below_step B.out hb)
      replace K6 := Aside0.mk (blk_below K6.out hb)
      replace K8 := Aside0.mk (blk_below K8.out hb)
      replace K9 := Aside0.mk (blk_below K9.out hb)
      clear hb dd hHeld
      refine hK.out _ _ hh (fun hHeld => ?_)
      clear hK K hh
      refine norm_ (a' := ?_) ?_ ?_
      rotate_left
      {
        show Act.put _ (some 65) _ = _
        simp only [Act.put, List.setIfInBounds_toArray, List.set_cons_zero, List.set_cons_succ, i64_w, i32_w]
        rfl
      }
      refine one_ (i := 8) (N := some 68) #[true, true, true, true, true, true, true, true, true, true, true, false, true, true, true, true, true, true, true, false, true, true, true, false, false, false] rfl rfl (one_of HT_.out (by kernel_rfl)) (by decide) (fun K hK => ?_)
      refine goes_ Try.func31 (by kernel_rfl) rfl #[.slice Ag2 yg2.length cg2] (by rfl) rfl rfl wT ?_
      with_reducible refine (impl_get.calls k _ _ yg2 t2 _ ?side1 ?side2 Fg2.out).mono ?_
      (case side1 => exact Kd.C_below HYg2.out B.out)
      (case side2 => exact HCg2.out)
      rintro e u3 ⟨rfl, dd⟩
      have hb := dd.below
      refine ⟨_, rfl, ?_⟩
      have hh := pw_cell_below hb hHeld
      replace B := Aside0.mk (below_step B.out hb)
      replace K6 := Aside0.mk (blk_below K6.out hb)
      replace K8 := Aside0.mk (blk_below K8.out hb)
      replace K9 := Aside0.mk (blk_below K9.out hb)
      clear hb dd hHeld
      refine hK.out _ _ hh (fun hHeld => ?_)
      clear hK K hh
      refine norm_ (a' := ?_) ?_ ?_
      rotate_left
      {
        show Act.put _ (some 68) _ = _
        simp only [Act.put, List.setIfInBounds_toArray, List.set_cons_zero, List.set_cons_succ, i64_w, i32_w]
        rfl
      }
      refine one_ (i := 11) (N := some 71) #[true, true, true, true, true, true, true, true, true, true, true, true, true, true, true, true, true, true, true, false, true, true, true, false, false, false] rfl rfl (one_of HT_.out (by kernel_rfl)) (by decide) (fun K hK => ?_)
      refine goes_ Try.func31 (by kernel_rfl) rfl #[.slice Ag3 yg3.length cg3] (by rfl) rfl rfl wT ?_
      with_reducible refine (impl_get.calls k _ _ yg3 t3 _ ?side1 ?side2 Fg3.out).mono ?_
      (case side1 => exact Kd.C_below HYg3.out B.out)
      (case side2 => exact HCg3.out)
      rintro e u4 ⟨rfl, dd⟩
      have hb := dd.below
      refine ⟨_, rfl, ?_⟩
      have hh := pw_cell_below hb hHeld
      replace B := Aside0.mk (below_step B.out hb)
      replace K6 := Aside0.mk (blk_below K6.out hb)
      replace K8 := Aside0.mk (blk_below K8.out hb)
      replace K9 := Aside0.mk (blk_below K9.out hb)
      clear hb dd hHeld
      refine hK.out _ _ hh (fun hHeld => ?_)
      clear hK K hh
      refine norm_ (a' := ?_) ?_ ?_
      rotate_left
      {
        show Act.put _ (some 71) _ = _
        simp only [Act.put, List.setIfInBounds_toArray, List.set_cons_zero, List.set_cons_succ, i64_w, i32_w]
        rfl
      }
      refine one_ (i := 19) (N := some 79) #[true, true, true, true, true, true, true, true, true, true, true, true, true, true, true, true, true, true, true, true, true, true, true, false, false, false] rfl rfl (one_of HT_.out (by kernel_rfl)) (by decide) (fun K hK => ?_)
      refine goes_ Try.func31 (by kernel_rfl) rfl #[.slice Ag5 yg5.length cg5] (by rfl) rfl rfl wT ?_
      with_reducible refine (impl_get.calls k _ _ yg5 t5 _ ?side1 ?side2 Fg5.out).mono ?_
      (case side1 => exact Kd.C_below HYg5.out B.out)
      (case side2 => exact HCg5.out)
      rintro e u5 ⟨rfl, dd⟩
      have hb := dd.below
      refine ⟨_, rfl, ?_⟩
      have hh := pw_cell_below hb hHeld
      replace B := Aside0.mk (below_step B.out hb)
      replace K6 := Aside0.mk (blk_below K6.out hb)
      replace K8 := Aside0.mk (blk_below K8.out hb)
      replace K9 := Aside0.mk (blk_below K9.out hb)
      clear hb dd hHeld
      refine hK.out _ _ hh (fun hHeld => ?_)
      clear hK K hh
      refine norm_ (a' := ?_) ?_ ?_
      rotate_left
      {
        show Act.put _ (some 79) _ = _
        simp only [Act.put, List.setIfInBounds_toArray, List.set_cons_zero, List.set_cons_succ, i64_w, i32_w]
        rfl
      }
      refine one_ (i := 23) (N := some 83) #[true, true, true, true, true, true, true, true, true, true, true, true, true, true, true, true, true, true, true, true, true, true, true, true, false, false] rfl rfl (one_of HT_.out (by kernel_rfl)) (by decide) (fun K hK => ?_)
      refine goes_ Try.func32 (by kernel_rfl) rfl #[.slice Agd ygd.length cgd] (by rfl) rfl rfl wT ?_
      with_reducible refine (impl_dup.calls _ _ ygd d _ ?side1 ?side2 Fgd.out).mono ?_
      (case side1 => exact Kd.C_below HYgd.out B.out)
      (case side2 => exact HCgd.out)
      rintro e u6 ⟨vd, rfl, ho, hb⟩
      refine ⟨_, rfl, ?_⟩
      have hh := pw_cell_below hb hHeld
      have D : Aside0 (Kd.R (Kd.int .u8) 5 u6 w.heap.size (fun k_ => w.heap.size ≤ k_) vd d) := ⟨Kd.R_mono (Kd.R_lower (Kd.R_newM (M := fun k_ => w.heap.size ≤ k_) ho B.out.size (fun _ h_ => h_)) B.out.size) (fun _ h_ => h_.1)⟩
      replace B := Aside0.mk (below_step B.out hb)
      replace K6 := Aside0.mk (blk_below K6.out hb)
      replace K8 := Aside0.mk (blk_below K8.out hb)
      replace K9 := Aside0.mk (blk_below K9.out hb)
      clear hb hHeld ho
      obtain ⟨Ad, cd, ed⟩ := Kd.R_slice D.out
      subst ed
      refine hK.out _ _ hh (fun hHeld => ?_)
      clear hK K hh
      refine norm_ (a' := ?_) ?_ ?_
      rotate_left
      {
        show Act.put _ (some 83) _ = _
        simp only [Act.put, List.setIfInBounds_toArray, List.set_cons_zero, List.set_cons_succ, i64_w, i32_w]
        rfl
      }
      refine pure_ (i := 24) (N := some 84) (v := ?_) (a' := ?_) #[true, true, true, true, true, true, true, true, true, true, true, true, true, true, true, true, true, true, true, true, true, true, true, true, true, false] rfl rfl (any_of HT_.out (by kernel_rfl)) (fun _ _ _ h => h) (Or.inl ⟨by rfl, ?_⟩) ?_ ?_
      rotate_left
      {
        intro w'
        go_simp
        with_reducible rfl
      }
      rotate_left
      {
        simp only [Act.put, List.setIfInBounds_toArray, List.set_cons_zero, List.set_cons_succ, i64_w, i32_w]
        rfl
      }
      refine last_ (i := 25) (N := none) #[true, true, true, true, true, true, true, true, true, true, true, true, true, true, true, true, true, true, true, true, true, true, true, true, true, true] rfl rfl (one_of HT_.out (by kernel_rfl)) (by decide) (fun K hK => ?_)
      obtain ⟨⟨hczs_0, hczs_1, hczs_2, hczs_3, hczs_4, hczs_5, hczs_6, hczs_7, hczs_8, hczs_9, hczs_10, hczs_11⟩, hfzs_0, hfzs_1, hfzs_2, hfzs_3, hfzs_4, hfzs_5, hfzs_6, hfzs_7, hfzs_8, hfzs_9, hfzs_10, hfzs_11⟩ := cells12 K8.out
      refine skip_ (w1 := put12 u6 g8 (.int .i64 t0) (.int .i64 t1) (.int .i64 t2) (.int .i64 t3) (.int .i64 (wrap64 (Go.bits .and .u8 (rd l0 13) 63))) (.int .i64 t5) (.int .i64 0) (.bool false) (.int .i64 0) (.bool false) (.slice none 0 0) (.slice Ad d.length cd)) (by rfl) rfl ?_ ?_
      {
        first | (go_simp; done) | (go_simp; rfl)
      }
      generalize hu_ : put12 u6 g8 (.int .i64 t0) (.int .i64 t1) (.int .i64 t2) (.int .i64 t3) (.int .i64 (wrap64 (Go.bits .and .u8 (rd l0 13) 63))) (.int .i64 t5) (.int .i64 0) (.bool false) (.int .i64 0) (.bool false) (.slice none 0 0) (.slice Ad d.length cd) = u7
      replace D : Aside0 (Kd.R (Kd.int .u8) 5 u7 w.heap.size (fun k_ => w.heap.size ≤ k_) (.slice Ad d.length cd) d) := ⟨by rw [← hu_]; exact Kd.R_mono (Kd.R_step (Kd.R_types D.out K8.out (by decide)) (fun _ hk _ => far12 hk.2)) (fun _ hk => hk.1)⟩
      replace K6 : Aside0 (u7.heap[g6]? = some (.cells #[.int .i64 0, .int .i64 0, .int .i64 0, .int .i64 0, .int .i64 0, .int .i64 0, .int .i64 0, .bool false, .int .i64 0, .bool false, .slice none 0 0, .slice none 0 0] 25 (0, 0))) := ⟨by rw [← hu_]; exact (far12 N68.out).trans K6.out⟩
      replace K9 : Aside0 (u7.heap[g9]? = some (.cells #[.int .i64 0, .int .i64 0, .int .i64 0, .int .i64 0, .int .i64 0, .int .i64 0, .int .i64 0, .bool false, .int .i64 0, .bool false, .slice none 0 0, .slice none 0 0] 25 (0, 0))) := ⟨by rw [← hu_]; exact (far12 N89.out.symm).trans K9.out⟩
      replace K8 : Aside0 (u7.heap[g8]? = some (.cells #[.int .i64 t0, .int .i64 t1, .int .i64 t2, .int .i64 t3, .int .i64 (wrap64 (Go.bits .and .u8 (rd l0 13) 63)), .int .i64 t5, .int .i64 0, .bool false, .int .i64 0, .bool false, .slice none 0 0, .slice Ad d.length cd] 25 (0, 0))) := ⟨by rw [← hu_]; exact set12 K8.out⟩
      replace B : Aside0 (Below w.heap.size w u7) := ⟨by rw [← hu_]; refine below_set ?_ G8.out; refine below_set ?_ G8.out; refine below_set ?_ G8.out; refine below_set ?_ G8.out; refine below_set ?_ G8.out; refine below_set ?_ G8.out; refine below_set ?_ G8.out; refine below_set ?_ G8.out; refine below_set ?_ G8.out; refine below_set ?_ G8.out; refine below_set ?_ G8.out; refine below_set ?_ G8.out; exact B.out⟩
      clear hu_
      clear hczs_0 hfzs_0 hczs_1 hfzs_1 hczs_2 hfzs_2 hczs_3 hfzs_3 hczs_4 hfzs_4 hczs_5 hfzs_5 hczs_6 hfzs_6 hczs_7 hfzs_7 hczs_8 hfzs_8 hczs_9 hfzs_9 hczs_10 hfzs_10 hczs_11 hfzs_11
      refine hK.out _ _ ?_
      clear hK K
      refine done_ (done_of HT_.out (by kernel_rfl)) ?_
      clear HT_ HW_ hHeld
      clear hcutg0 qcg0 HYg0 HCg0 HEg0 Fg0 hcutg1 qcg1 HYg1 HCg1 HEg1 Fg1 hcutg2 qcg2 HYg2 HCg2 HEg2 Fg2 hcutg3 qcg3 HYg3 HCg3 HEg3 Fg3 hcutg5 qcg5 HYg5 HCg5 HEg5 Fg5 qag1 qbg1 HLg1 qag2 qbg2 HLg2 qag3 qbg3 HLg3 qag5 qbg5 HLg5 hcutgd qagd qbgd HYgd HCgd HEgd Fgd q13 q13i
      obtain ⟨io, hio, _, hszo, _⟩ := info_parts info5
      have qao : (0 : Int) ≤ (20 : Int) := (by omega)
      have qbo : (20 : Int) ≤ (n : Int) := HN0.out
      have qco : (n : Int) ≤ (l0.length : Int) := HN1.out
      have hcuto := cut_mid (P := Try.prog) 22 5 .i64 .i64 Try.underlying22 hio 1 hszo (some ad) l0.length c0 20 n qao qbo qco HC0.out
      have hro := Kd.C_mid (lo := (20 : Int).toNat) (hi := (n : Int).toNat) (c := c0) HR0.out (by omega) (by omega) HC0.out
      obtain ⟨Ao, hAo⟩ : ∃ Aq_, Aq_ = (if c0 = (20 : Int).toNat then (some ad) else ((some ad) : Option Addr).map (·.add ((20 : Int).toNat * 1))) := ⟨_, rfl⟩
      obtain ⟨co, hco⟩ : ∃ cq_, cq_ = c0 - (20 : Int).toNat := ⟨_, rfl⟩
      obtain ⟨yo, hyo⟩ : ∃ y_ : List Int, y_ = (l0.take (n : Int).toNat).drop (20 : Int).toNat := ⟨_, rfl⟩
      have hlo : yo.length = (n : Int).toNat - (20 : Int).toNat := by rw [hyo, List.length_drop, List.length_take]; omega
      rw [← hyo] at hro
      replace hro : Kd.C (Kd.int .u8) w Ao yo.length yo := by rw [hAo]; exact hro
      rw [← hlo, ← hAo, ← hco] at hcuto
      have HYo := Aside0.mk hro
      have HCo := Aside0.mk (show yo.length ≤ co from by have := HC0.out; rw [hlo, hco]; omega)
      have HEo := Aside0.mk hyo
      have HLo := Aside0.mk hlo
      clear hro hio hszo hco hyo hlo hAo
      replace qao := eq_true qao
      replace qbo := eq_true qbo
      replace qco := eq_true qco
      obtain ⟨⟨e0, e1, e2, e3, e4, e5, e6, e7, e8, e9, se, ok⟩, A, H⟩ := Option.bind_eq_some_iff.mp HF.out
      have FIN := Aside0.mk H
      have HA : Aside0 (impl_DecodeSegment.l0 k t0 t1 t2 t3 (wrap64 (Go.bits .and .u8 (rd l0 13) 63)) t5 0 false 0 false [] yo = some (e0, e1, e2, e3, e4, e5, e6, e7, e8, e9, se, ok)) := ⟨by rw [HEo.out]; exact A⟩
      clear H A HF
      obtain ⟨fl, hfl⟩ : ∃ f_ : Int, f_ = wrap64 (Go.bits .and .u8 (rd l0 13) 63) := ⟨_, rfl⟩
      rw [← hfl] at HA K8
      clear hfl
      go_wp2
      go_loopg [11] k (fun kq v11 v => ∃ (x0 : Int) (x1 : Int) (x2 : Int) (x3 : Int) (x4 : Int) (x5 : Int) (x6 : Int) (x7 : Bool) (x8 : Int) (x9 : Bool) (As : Option Addr) (cs : Nat) (s : List (S60)) (Ab : Option Addr) (cb : Nat) (b : List Int), v11 = .slice Ab b.length cb ∧ Aside0 (impl_DecodeSegment.l0 kq x0 x1 x2 x3 x4 x5 x6 x7 x8 x9 s b = some (e0, e1, e2, e3, e4, e5, e6, e7, e8, e9, se, ok)) ∧ Aside0 (kq ≤ k) ∧ Aside0 (Kd.R k60 60 v w.heap.size (fun k_ => w.heap.size ≤ k_) (.slice As s.length cs) s) ∧ Aside0 (Kd.R (Kd.int .u8) 5 v w.heap.size (fun k_ => w.heap.size ≤ k_) (.slice Ad d.length cd) d) ∧ Aside0 (Kd.C (Kd.int .u8) w Ab b.length b) ∧ Aside0 (b.length ≤ cb) ∧ Aside0 (v.heap[g6]? = some (.cells #[.int .i64 0, .int .i64 0, .int .i64 0, .int .i64 0, .int .i64 0, .int .i64 0, .int .i64 0, .bool false, .int .i64 0, .bool false, .slice none 0 0, .slice none 0 0] 25 (0, 0))) ∧ Aside0 (v.heap[g8]? = some (.cells #[.int .i64 x0, .int .i64 x1, .int .i64 x2, .int .i64 x3, .int .i64 x4, .int .i64 x5, .int .i64 x6, .bool x7, .int .i64 x8, .bool x9, .slice As s.length cs, .slice Ad d.length cd] 25 (0, 0))) ∧ Aside0 (v.heap[g9]? = some (.cells #[.int .i64 0, .int .i64 0, .int .i64 0, .int .i64 0, .int .i64 0, .int .i64 0, .int .i64 0, .bool false, .int .i64 0, .bool false, .slice none 0 0, .slice none 0 0] 25 (0, 0))) ∧ Aside0 (Below w.heap.size w v))
      case atStart => exact ⟨t0, t1, t2, t3, fl, t5, 0, false, 0, false, none, 0, [], Ao, co, yo, (by first | rfl | (simp; done) | (simp [*]; done) | (simp [errW_none, errW_some] <;> rfl) | (simp [*, errW_none, errW_some] <;> rfl)), HA, ⟨Nat.le_refl _⟩, ⟨Kd.R_nil _ _ _ _ _⟩, D, HYo, HCo, K6, K8, K9, B⟩
      case round =>
        clear HA K6 K8 K9 D B HYo HCo HEo HLo hcuto qao qbo qco HR0 HC0 HL HU HN0 HN1 HLT E1 E2 HYT P1 P2 c3b c4b c6b c6c
        obtain ⟨x0, x1, x2, x3, x4, x5, x6, x7, x8, x9, As, cs, s, Ab, cb, b, rfl, HA, HK1, S, D, HC, HCC, K6, K8, K9, B⟩ := hrel
        cases gk with
        | zero => exact absurd HA.out (by simp [impl_DecodeSegment.l0])
        | succ k1 =>
        have H := HA.out
        clear HA
        simp only [impl_DecodeSegment.l0] at H
        by_cases c0 : 0 < (b.length : Int)
        rotate_left
        · rw [if_neg c0] at H
          have c0b : decide (0 < (b.length : Int)) = false := decide_eq_false c0
          have c0c : decide (0 < b.length) = false := decide_eq_false (by omega)
          clear c0
          simp only [Option.some.injEq, Prod.mk.injEq] at H
          obtain ⟨rfl, rfl, rfl, rfl, rfl, rfl, rfl, rfl, rfl, rfl, rfl, rfl⟩ := H
          have H : some (x0, x1, x2, x3, x4, x5, x6, x7, x8, x9, s, d, 0) = some (r0, r1, r2, r3, r4, r5, r6, r7, r8, r9, r10, r11, r12) := FIN.out
          clear FIN
          simp only [Option.some.injEq, Prod.mk.injEq] at H
          obtain ⟨rfl, rfl, rfl, rfl, rfl, rfl, rfl, rfl, rfl, rfl, rfl, rfl, rfl⟩ := H
          obtain ⟨⟨hcza_0, hcza_1, hcza_2, hcza_3, hcza_4, hcza_5, hcza_6, hcza_7, hcza_8, hcza_9, hcza_10, hcza_11⟩, hfza_0, hfza_1, hfza_2, hfza_3, hfza_4, hfza_5, hfza_6, hfza_7, hfza_8, hfza_9, hfza_10, hfza_11⟩ := cells12 K6.out
          obtain ⟨⟨hczs_0, hczs_1, hczs_2, hczs_3, hczs_4, hczs_5, hczs_6, hczs_7, hczs_8, hczs_9, hczs_10, hczs_11⟩, hfzs_0, hfzs_1, hfzs_2, hfzs_3, hfzs_4, hfzs_5, hfzs_6, hfzs_7, hfzs_8, hfzs_9, hfzs_10, hfzs_11⟩ := cells12 K8.out
          go_wp2_with (first
              | ((with_reducible refine gate_store (t := 25) (p := 6) rfl ?_); refine store_event (t := 25) (p := 6) (v := ?vo_8) (w1 := put12 wr g6 (.int .i64 x0) (.int .i64 x1) (.int .i64 x2) (.int .i64 x3) (.int .i64 x4) (.int .i64 x5) (.int .i64 x6) (.bool x7) (.int .i64 x8) (.bool x9) (.slice As s.length cs) (.slice Ad d.length cd)) ?hg ?ho ?hn ?hr ?_; (case ho => rfl); (case hg => rfl); (case hn => rfl); (case hr => first | (go_simp; done) | (go_simp; rfl)); intro vS hw; replace S : Aside0 (Kd.R k60 60 vS w.heap.size (fun k_ => w.heap.size ≤ k_) (.slice As s.length cs) s) := ⟨by rw [hw]; exact Kd.R_mono (Kd.R_step (Kd.R_types S.out K6.out (by decide)) (fun _ hk _ => far12 hk.2)) (fun _ hk => hk.1)⟩; replace D : Aside0 (Kd.R (Kd.int .u8) 5 vS w.heap.size (fun k_ => w.heap.size ≤ k_) (.slice Ad d.length cd) d) := ⟨by rw [hw]; exact Kd.R_mono (Kd.R_step (Kd.R_types D.out K6.out (by decide)) (fun _ hk _ => far12 hk.2)) (fun _ hk => hk.1)⟩; replace K6 : Aside0 (vS.heap[g6]? = some (.cells #[.int .i64 x0, .int .i64 x1, .int .i64 x2, .int .i64 x3, .int .i64 x4, .int .i64 x5, .int .i64 x6, .bool x7, .int .i64 x8, .bool x9, .slice As s.length cs, .slice Ad d.length cd] 25 (0, 0))) := ⟨by rw [hw]; exact set12 K6.out⟩; replace B : Aside0 (Below w.heap.size w vS) := ⟨by rw [hw]; refine below_set ?_ G6.out; refine below_set ?_ G6.out; refine below_set ?_ G6.out; refine below_set ?_ G6.out; refine below_set ?_ G6.out; refine below_set ?_ G6.out; refine below_set ?_ G6.out; refine below_set ?_ G6.out; refine below_set ?_ G6.out; refine below_set ?_ G6.out; refine below_set ?_ G6.out; refine below_set ?_ G6.out; exact B.out⟩; clear hw; skip))
          refine bodyPost_ret (results_ct rfl _ _ g6 25 #[.int .i64 x0, .int .i64 x1, .int .i64 x2, .int .i64 x3, .int .i64 x4, .int .i64 x5, .int .i64 x6, .bool x7, .int .i64 x8, .bool x9, .slice As s.length cs, .slice Ad d.length cd] (0, 0) _ rfl K6.out Try.underlying25 rfl (by kernel_rfl)) rfl ?_
          exact ⟨.slice As s.length cs, .slice Ad d.length cd, (by first | rfl | (simp; done) | (simp [*]; done) | (simp [errW_none, errW_some] <;> rfl) | (simp [*, errW_none, errW_some] <;> rfl)), S.out, D.out, B.out⟩
        rw [if_pos c0] at H
        have c0b : decide (0 < (b.length : Int)) = true := decide_eq_true c0
        have c0c : decide (0 < b.length) = true := decide_eq_true (by omega)
        have q0 : (0 < b.length) = True := eq_true (by omega)
        obtain ⟨ad, ead, hx0⟩ := Kd.at_int (Kd.C_below HC.out B.out) 0 (by omega) c0
        subst ead
        rw [show ((0 : Int)).toNat = 0 from rfl, Addr.add_zero'] at hx0
        obtain ⟨c, hc⟩ : ∃ c_ : Int, c_ = rd b 0 := ⟨_, rfl⟩
        rw [← hc] at H hx0
        have HCE := Aside0.mk hc
        clear hc
        by_cases c1 : c = 0
        · rw [if_pos c1] at H
          have c1b : ((c) == 0) = true := beq_iff_eq.mpr c1
          have c1c : ((c) != 0) = false := bne_eq_false_iff_eq.mpr c1
          simp only [Option.some.injEq, Prod.mk.injEq] at H
          obtain ⟨rfl, rfl, rfl, rfl, rfl, rfl, rfl, rfl, rfl, rfl, rfl, rfl⟩ := H
          have H : some (x0, x1, x2, x3, x4, x5, x6, x7, x8, x9, s, d, 0) = some (r0, r1, r2, r3, r4, r5, r6, r7, r8, r9, r10, r11, r12) := FIN.out
          clear FIN
          simp only [Option.some.injEq, Prod.mk.injEq] at H
          obtain ⟨rfl, rfl, rfl, rfl, rfl, rfl, rfl, rfl, rfl, rfl, rfl, rfl, rfl⟩ := H
          obtain ⟨⟨hcza_0, hcza_1, hcza_2, hcza_3, hcza_4, hcza_5, hcza_6, hcza_7, hcza_8, hcza_9, hcza_10, hcza_11⟩, hfza_0, hfza_1, hfza_2, hfza_3, hfza_4, hfza_5, hfza_6, hfza_7, hfza_8, hfza_9, hfza_10, hfza_11⟩ := cells12 K6.out
          obtain ⟨⟨hczs_0, hczs_1, hczs_2, hczs_3, hczs_4, hczs_5, hczs_6, hczs_7, hczs_8, hczs_9, hczs_10, hczs_11⟩, hfzs_0, hfzs_1, hfzs_2, hfzs_3, hfzs_4, hfzs_5, hfzs_6, hfzs_7, hfzs_8, hfzs_9, hfzs_10, hfzs_11⟩ := cells12 K8.out
          go_wp2_with (first
              | ((with_reducible refine gate_store (t := 25) (p := 6) rfl ?_); refine store_event (t := 25) (p := 6) (v := ?vo_9) (w1 := put12 wr g6 (.int .i64 x0) (.int .i64 x1) (.int .i64 x2) (.int .i64 x3) (.int .i64 x4) (.int .i64 x5) (.int .i64 x6) (.bool x7) (.int .i64 x8) (.bool x9) (.slice As s.length cs) (.slice Ad d.length cd)) ?hg ?ho ?hn ?hr ?_; (case ho => rfl); (case hg => rfl); (case hn => rfl); (case hr => first | (go_simp; done) | (go_simp; rfl)); intro vS hw; replace S : Aside0 (Kd.R k60 60 vS w.heap.size (fun k_ => w.heap.size ≤ k_) (.slice As s.length cs) s) := ⟨by rw [hw]; exact Kd.R_mono (Kd.R_step (Kd.R_types S.out K6.out (by decide)) (fun _ hk _ => far12 hk.2)) (fun _ hk => hk.1)⟩; replace D : Aside0 (Kd.R (Kd.int .u8) 5 vS w.heap.size (fun k_ => w.heap.size ≤ k_) (.slice Ad d.length cd) d) := ⟨by rw [hw]; exact Kd.R_mono (Kd.R_step (Kd.R_types D.out K6.out (by decide)) (fun _ hk _ => far12 hk.2)) (fun _ hk => hk.1)⟩; replace K6 : Aside0 (vS.heap[g6]? = some (.cells #[.int .i64 x0, .int .i64 x1, .int .i64 x2, .int .i64 x3, .int .i64 x4, .int .i64 x5, .int .i64 x6, .bool x7, .int .i64 x8, .bool x9, .slice As s.length cs, .slice Ad d.length cd] 25 (0, 0))) := ⟨by rw [hw]; exact set12 K6.out⟩; replace B : Aside0 (Below w.heap.size w vS) := ⟨by rw [hw]; refine below_set ?_ G6.out; refine below_set ?_ G6.out; refine below_set ?_ G6.out; refine below_set ?_ G6.out; refine below_set ?_ G6.out; refine below_set ?_ G6.out; refine below_set ?_ G6.out; refine below_set ?_ G6.out; refine below_set ?_ G6.out; refine below_set ?_ G6.out; refine below_set ?_ G6.out; refine below_set ?_ G6.out; exact B.out⟩; clear hw; skip))
          refine bodyPost_ret (results_ct rfl _ _ g6 25 #[.int .i64 x0, .int .i64 x1, .int .i64 x2, .int .i64 x3, .int .i64 x4, .int .i64 x5, .int .i64 x6, .bool x7, .int .i64 x8, .bool x9, .slice As s.length cs, .slice Ad d.length cd] (0, 0) _ rfl K6.out Try.underlying25 rfl (by kernel_rfl)) rfl ?_
          exact ⟨.slice As s.length cs, .slice Ad d.length cd, (by first | rfl | (simp; done) | (simp [*]; done) | (simp [errW_none, errW_some] <;> rfl) | (simp [*, errW_none, errW_some] <;> rfl)), S.out, D.out, B.out⟩
        rw [if_neg c1] at H
        have c1b : ((c) == 0) = false := beq_eq_false_iff_ne.mpr c1
        have c1c : ((c) != 0) = true := bne_iff_ne.mpr c1
        by_cases c2 : c = 1
        · rw [if_pos c2] at H
          have c2b : ((c) == 1) = true := beq_iff_eq.mpr c2
          have c2c : ((c) != 1) = false := bne_eq_false_iff_eq.mpr c2
          obtain ⟨ip, hip, _, hszp, _⟩ := info_parts info5
          have qap : (0 : Int) ≤ (1 : Int) := (by omega)
          have qbp : (1 : Int) ≤ (b.length : Int) := (by omega)
          have hcutp := cut_from (P := Try.prog) 22 5 .i64 Try.underlying22 hip 1 hszp (some ad) b.length cb 1 qap qbp
          have hrp := Kd.C_drop (m := (1 : Int).toNat) (c := cb) HC.out (by omega) HCC.out
          obtain ⟨Ap, hAp⟩ : ∃ Aq_, Aq_ = (if cb = (1 : Int).toNat then (some ad) else ((some ad) : Option Addr).map (·.add ((1 : Int).toNat * 1))) := ⟨_, rfl⟩
          obtain ⟨cp, hcp⟩ : ∃ cq_, cq_ = cb - (1 : Int).toNat := ⟨_, rfl⟩
          obtain ⟨yp, hyp⟩ : ∃ y_ : List Int, y_ = b.drop (1 : Int).toNat := ⟨_, rfl⟩
          have hlp : yp.length = b.length - (1 : Int).toNat := by rw [hyp, List.length_drop]
          rw [← hyp] at hrp
          replace hrp : Kd.C (Kd.int .u8) w Ap yp.length yp := by rw [hAp]; exact hrp
          rw [← hlp, ← hAp, ← hcp] at hcutp
          have HYp := Aside0.mk hrp
          have HCp := Aside0.mk (show yp.length ≤ cp from by have := HCC.out; rw [hlp, hcp]; omega)
          have HEp := Aside0.mk hyp
          clear hrp hip hszp hcp hyp hlp hAp
          replace qap := eq_true qap
          replace qbp := eq_true qbp
          have H2 : Aside0 (impl_DecodeSegment.l0 k1 x0 x1 x2 x3 x4 x5 x6 x7 x8 x9 s yp = some (e0, e1, e2, e3, e4, e5, e6, e7, e8, e9, se, ok)) := ⟨by rw [HEp.out]; exact H⟩
          clear H
          go_wp2
          go_roundg k1
          case measure => have := HK1.out; omega
          case rel => exact ⟨x0, x1, x2, x3, x4, x5, x6, x7, x8, x9, As, cs, s, Ap, cp, yp, (by first | rfl | (simp; done) | (simp [*]; done) | (simp [errW_none, errW_some] <;> rfl) | (simp [*, errW_none, errW_some] <;> rfl)), H2, ⟨by have := HK1.out; omega⟩, S, D, HYp, HCp, K6, K8, K9, B⟩
        rw [if_neg c2] at H
        have c2b : ((c) == 1) = false := beq_eq_false_iff_ne.mpr c2
        have c2c : ((c) != 1) = true := bne_iff_ne.mpr c2
        by_cases c3 : (b.length : Int) < 2
        · rw [if_pos c3] at H
          have c3b : decide ((b.length : Int) < 2) = true := decide_eq_true c3
          have c3c : decide (b.length < 2) = true := decide_eq_true (by omega)
          simp only [Option.some.injEq, Prod.mk.injEq] at H
          obtain ⟨rfl, rfl, rfl, rfl, rfl, rfl, rfl, rfl, rfl, rfl, rfl, rfl⟩ := H
          have H : some (0, 0, 0, 0, 0, 0, 0, false, 0, false, [], [], 10) = some (r0, r1, r2, r3, r4, r5, r6, r7, r8, r9, r10, r11, r12) := FIN.out
          clear FIN
          simp only [Option.some.injEq, Prod.mk.injEq] at H
          obtain ⟨rfl, rfl, rfl, rfl, rfl, rfl, rfl, rfl, rfl, rfl, rfl, rfl, rfl⟩ := H
          obtain ⟨⟨hcza_0, hcza_1, hcza_2, hcza_3, hcza_4, hcza_5, hcza_6, hcza_7, hcza_8, hcza_9, hcza_10, hcza_11⟩, hfza_0, hfza_1, hfza_2, hfza_3, hfza_4, hfza_5, hfza_6, hfza_7, hfza_8, hfza_9, hfza_10, hfza_11⟩ := cells12 K6.out
          obtain ⟨⟨hczb_0, hczb_1, hczb_2, hczb_3, hczb_4, hczb_5, hczb_6, hczb_7, hczb_8, hczb_9, hczb_10, hczb_11⟩, hfzb_0, hfzb_1, hfzb_2, hfzb_3, hfzb_4, hfzb_5, hfzb_6, hfzb_7, hfzb_8, hfzb_9, hfzb_10, hfzb_11⟩ := cells12 K9.out
          go_wp2_with (first
              | ((with_reducible refine gate_store (t := 25) (p := 6) rfl ?_); refine store_event (t := 25) (p := 6) (v := ?vo_10) (w1 := put12 wr g6 (.int .i64 0) (.int .i64 0) (.int .i64 0) (.int .i64 0) (.int .i64 0) (.int .i64 0) (.int .i64 0) (.bool false) (.int .i64 0) (.bool false) (.slice none 0 0) (.slice none 0 0)) ?hg ?ho ?hn ?hr ?_; (case ho => rfl); (case hg => rfl); (case hn => rfl); (case hr => first | (go_simp; done) | (go_simp; rfl)); intro vS hw; replace K6 : Aside0 (vS.heap[g6]? = some (.cells #[.int .i64 0, .int .i64 0, .int .i64 0, .int .i64 0, .int .i64 0, .int .i64 0, .int .i64 0, .bool false, .int .i64 0, .bool false, .slice none 0 0, .slice none 0 0] 25 (0, 0))) := ⟨by rw [hw]; exact set12 K6.out⟩; replace B : Aside0 (Below w.heap.size w vS) := ⟨by rw [hw]; refine below_set ?_ G6.out; refine below_set ?_ G6.out; refine below_set ?_ G6.out; refine below_set ?_ G6.out; refine below_set ?_ G6.out; refine below_set ?_ G6.out; refine below_set ?_ G6.out; refine below_set ?_ G6.out; refine below_set ?_ G6.out; refine below_set ?_ G6.out; refine below_set ?_ G6.out; refine below_set ?_ G6.out; exact B.out⟩; clear hw; skip))
          refine bodyPost_ret (results_ct rfl _ _ g6 25 #[.int .i64 0, .int .i64 0, .int .i64 0, .int .i64 0, .int .i64 0, .int .i64 0, .int .i64 0, .bool false, .int .i64 0, .bool false, .slice none 0 0, .slice none 0 0] (0, 0) _ rfl K6.out Try.underlying25 rfl (by kernel_rfl)) rfl ?_
          exact ⟨.slice none 0 0, .slice none 0 0, (by first | rfl | (simp; done) | (simp [*]; done) | (simp [errW_none, errW_some] <;> rfl) | (simp [*, errW_none, errW_some] <;> rfl)), Kd.R_nil _ _ _ _ _, Kd.R_nil _ _ _ _ _, B.out⟩
        rw [if_neg c3] at H
        have c3b : decide ((b.length : Int) < 2) = false := decide_eq_false c3
        have c3c : decide (b.length < 2) = false := decide_eq_false (by omega)
        obtain ⟨ad2, ead, hx1⟩ := Kd.at_int (Kd.C_below HC.out B.out) 1 (by omega) (by omega)
        obtain rfl : ad = ad2 := (by injection ead)
        simp only [show (1 : Int).toNat = 1 from rfl, Nat.reduceMul, Nat.reduceEqDiff, Go.Addr.add, ↓reduceIte] at hx1
        clear ead
        have q2 : (1 < b.length) = True := eq_true (by omega)
        obtain ⟨m, hm⟩ : ∃ n_ : Int, n_ = rd b 1 := ⟨_, rfl⟩
        rw [← hm] at H hx1
        have HME := Aside0.mk hm
        clear hm
        by_cases c4 : m < 2
        · rw [if_pos c4] at H
          have c4b : decide (m < 2) = true := decide_eq_true c4
          simp only [Option.some.injEq, Prod.mk.injEq] at H
          obtain ⟨rfl, rfl, rfl, rfl, rfl, rfl, rfl, rfl, rfl, rfl, rfl, rfl⟩ := H
          have H : some (0, 0, 0, 0, 0, 0, 0, false, 0, false, [], [], 10) = some (r0, r1, r2, r3, r4, r5, r6, r7, r8, r9, r10, r11, r12) := FIN.out
          clear FIN
          simp only [Option.some.injEq, Prod.mk.injEq] at H
          obtain ⟨rfl, rfl, rfl, rfl, rfl, rfl, rfl, rfl, rfl, rfl, rfl, rfl, rfl⟩ := H
          obtain ⟨⟨hcza_0, hcza_1, hcza_2, hcza_3, hcza_4, hcza_5, hcza_6, hcza_7, hcza_8, hcza_9, hcza_10, hcza_11⟩, hfza_0, hfza_1, hfza_2, hfza_3, hfza_4, hfza_5, hfza_6, hfza_7, hfza_8, hfza_9, hfza_10, hfza_11⟩ := cells12 K6.out
          obtain ⟨⟨hczb_0, hczb_1, hczb_2, hczb_3, hczb_4, hczb_5, hczb_6, hczb_7, hczb_8, hczb_9, hczb_10, hczb_11⟩, hfzb_0, hfzb_1, hfzb_2, hfzb_3, hfzb_4, hfzb_5, hfzb_6, hfzb_7, hfzb_8, hfzb_9, hfzb_10, hfzb_11⟩ := cells12 K9.out
          go_wp2_with (first
              | ((with_reducible refine gate_store (t := 25) (p := 6) rfl ?_); refine store_event (t := 25) (p := 6) (v := ?vo_11) (w1 := put12 wr g6 (.int .i64 0) (.int .i64 0) (.int .i64 0) (.int .i64 0) (.int .i64 0) (.int .i64 0) (.int .i64 0) (.bool false) (.int .i64 0) (.bool false) (.slice none 0 0) (.slice none 0 0)) ?hg ?ho ?hn ?hr ?_; (case ho => rfl); (case hg => rfl); (case hn => rfl); (case hr => first | (go_simp; done) | (go_simp; rfl)); intro vS hw; replace K6 : Aside0 (vS.heap[g6]? = some (.cells #[.int .i64 0, .int .i64 0, .int .i64 0, .int .i64 0, .int .i64 0, .int .i64 0, .int .i64 0, .bool false, .int .i64 0, .bool false, .slice none 0 0, .slice none 0 0] 25 (0, 0))) := ⟨by rw [hw]; exact set12 K6.out⟩; replace B : Aside0 (Below w.heap.size w vS) := ⟨by rw [hw]; refine below_set ?_ G6.out; refine below_set ?_ G6.out; refine below_set ?_ G6.out; refine below_set ?_ G6.out; refine below_set ?_ G6.out; refine below_set ?_ G6.out; refine below_set ?_ G6.out; refine below_set ?_ G6.out; refine below_set ?_ G6.out; refine below_set ?_ G6.out; refine below_set ?_ G6.out; refine below_set ?_ G6.out; exact B.out⟩; clear hw; skip))
          refine bodyPost_ret (results_ct rfl _ _ g6 25 #[.int .i64 0, .int .i64 0, .int .i64 0, .int .i64 0, .int .i64 0, .int .i64 0, .int .i64 0, .bool false, .int .i64 0, .bool false, .slice none 0 0, .slice none 0 0] (0, 0) _ rfl K6.out Try.underlying25 rfl (by kernel_rfl)) rfl ?_
          exact ⟨.slice none 0 0, .slice none 0 0, (by first | rfl | (simp; done) | (simp [*]; done) | (simp [errW_none, errW_some] <;> rfl) | (simp [*, errW_none, errW_some] <;> rfl)), Kd.R_nil _ _ _ _ _, Kd.R_nil _ _ _ _ _, B.out⟩
        rw [if_neg c4] at H
        have c4b : decide (m < 2) = false := decide_eq_false c4
        by_cases c5 : (b.length : Int) < (wrap64 m)
        · rw [if_pos c5] at H
          have c5b : decide ((b.length : Int) < (wrap64 m)) = true := decide_eq_true c5
          have c5w := c5b
          (try simp only [← i64_w] at c5w)
          simp only [Option.some.injEq, Prod.mk.injEq] at H
          obtain ⟨rfl, rfl, rfl, rfl, rfl, rfl, rfl, rfl, rfl, rfl, rfl, rfl⟩ := H
          have H : some (0, 0, 0, 0, 0, 0, 0, false, 0, false, [], [], 10) = some (r0, r1, r2, r3, r4, r5, r6, r7, r8, r9, r10, r11, r12) := FIN.out
          clear FIN
          simp only [Option.some.injEq, Prod.mk.injEq] at H
          obtain ⟨rfl, rfl, rfl, rfl, rfl, rfl, rfl, rfl, rfl, rfl, rfl, rfl, rfl⟩ := H
          obtain ⟨⟨hcza_0, hcza_1, hcza_2, hcza_3, hcza_4, hcza_5, hcza_6, hcza_7, hcza_8, hcza_9, hcza_10, hcza_11⟩, hfza_0, hfza_1, hfza_2, hfza_3, hfza_4, hfza_5, hfza_6, hfza_7, hfza_8, hfza_9, hfza_10, hfza_11⟩ := cells12 K6.out
          obtain ⟨⟨hczb_0, hczb_1, hczb_2, hczb_3, hczb_4, hczb_5, hczb_6, hczb_7, hczb_8, hczb_9, hczb_10, hczb_11⟩, hfzb_0, hfzb_1, hfzb_2, hfzb_3, hfzb_4, hfzb_5, hfzb_6, hfzb_7, hfzb_8, hfzb_9, hfzb_10, hfzb_11⟩ := cells12 K9.out
          go_wp2_with (first
              | ((with_reducible refine gate_store (t := 25) (p := 6) rfl ?_); refine store_event (t := 25) (p := 6) (v := ?vo_12) (w1 := put12 wr g6 (.int .i64 0) (.int .i64 0) (.int .i64 0) (.int .i64 0) (.int .i64 0) (.int .i64 0) (.int .i64 0) (.bool false) (.int .i64 0) (.bool false) (.slice none 0 0) (.slice none 0 0)) ?hg ?ho ?hn ?hr ?_; (case ho => rfl); (case hg => rfl); (case hn => rfl); (case hr => first | (go_simp; done) | (go_simp; rfl)); intro vS hw; replace K6 : Aside0 (vS.heap[g6]? = some (.cells #[.int .i64 0, .int .i64 0, .int .i64 0, .int .i64 0, .int .i64 0, .int .i64 0, .int .i64 0, .bool false, .int .i64 0, .bool false, .slice none 0 0, .slice none 0 0] 25 (0, 0))) := ⟨by rw [hw]; exact set12 K6.out⟩; replace B : Aside0 (Below w.heap.size w vS) := ⟨by rw [hw]; refine below_set ?_ G6.out; refine below_set ?_ G6.out; refine below_set ?_ G6.out; refine below_set ?_ G6.out; refine below_set ?_ G6.out; refine below_set ?_ G6.out; refine below_set ?_ G6.out; refine below_set ?_ G6.out; refine below_set ?_ G6.out; refine below_set ?_ G6.out; refine below_set ?_ G6.out; refine below_set ?_ G6.out; exact B.out⟩; clear hw; skip))
          refine bodyPost_ret (results_ct rfl _ _ g6 25 #[.int .i64 0, .int .i64 0, .int .i64 0, .int .i64 0, .int .i64 0, .int .i64 0, .int .i64 0, .bool false, .int .i64 0, .bool false, .slice none 0 0, .slice none 0 0] (0, 0) _ rfl K6.out Try.underlying25 rfl (by kernel_rfl)) rfl ?_
          exact ⟨.slice none 0 0, .slice none 0 0, (by first | rfl | (simp; done) | (simp [*]; done) | (simp [errW_none, errW_some] <;> rfl) | (simp [*, errW_none, errW_some] <;> rfl)), Kd.R_nil _ _ _ _ _, Kd.R_nil _ _ _ _ _, B.out⟩
        rw [if_neg c5] at H
        have c5b : decide ((b.length : Int) < (wrap64 m)) = false := decide_eq_false c5
        have c5w := c5b
        (try simp only [← i64_w] at c5w)
        by_cases c6 : m ≤ (b.length : Int)
        rotate_left
        · rw [if_neg c6] at H
          cases H
        rw [if_pos c6] at H
        obtain ⟨iv, hiv, _, hszv, _⟩ := info_parts info5
        have qav : (0 : Int) ≤ (2 : Int) := (by omega)
        have qbv : (2 : Int) ≤ (m : Int) := (by omega)
        have qcv : (m : Int) ≤ (b.length : Int) := c6
        have hcutv := cut_mid (P := Try.prog) 22 5 .i64 .u8 Try.underlying22 hiv 1 hszv (some ad) b.length cb 2 m qav qbv qcv HCC.out
        have hrv := Kd.C_mid (lo := (2 : Int).toNat) (hi := (m : Int).toNat) (c := cb) HC.out (by omega) (by omega) HCC.out
        obtain ⟨Av, hAv⟩ : ∃ Aq_, Aq_ = (if cb = (2 : Int).toNat then (some ad) else ((some ad) : Option Addr).map (·.add ((2 : Int).toNat * 1))) := ⟨_, rfl⟩
        obtain ⟨cv, hcv⟩ : ∃ cq_, cq_ = cb - (2 : Int).toNat := ⟨_, rfl⟩
        obtain ⟨yv, hyv⟩ : ∃ y_ : List Int, y_ = (b.take (m : Int).toNat).drop (2 : Int).toNat := ⟨_, rfl⟩
        have hlv : yv.length = (m : Int).toNat - (2 : Int).toNat := by rw [hyv, List.length_drop, List.length_take]; omega
        rw [← hyv] at hrv
        replace hrv : Kd.C (Kd.int .u8) w Av yv.length yv := by rw [hAv]; exact hrv
        rw [← hlv, ← hAv, ← hcv] at hcutv
        have HYv := Aside0.mk hrv
        have HCv := Aside0.mk (show yv.length ≤ cv from by have := HCC.out; rw [hlv, hcv]; omega)
        have HEv := Aside0.mk hyv
        have HLv := Aside0.mk hlv
        clear hrv hiv hszv hcv hyv hlv hAv
        replace qav := eq_true qav
        replace qbv := eq_true qbv
        replace qcv := eq_true qcv
        replace H := Option.bind_eq_some_iff.mp H; obtain ⟨⟨y0, y1, y2, y3, y4, y5, y6, y7, y8, y9, sy, okb⟩, A, H⟩ := H
        have HO : Aside0 (impl_DecodeSegment.opt k1 x0 x1 x2 x3 x4 x5 x6 x7 x8 x9 s c yv = some (y0, y1, y2, y3, y4, y5, y6, y7, y8, y9, sy, okb)) := ⟨by rw [HEv.out]; exact A⟩
        dsimp only at H
        have HF := Aside0.mk H
        clear H A
        have HM2 := Aside0.mk (show 2 ≤ m from by omega)
        have HMB := Aside0.mk c6
        go_upto_block 3 with (fail)
        clear c0 c0b c0c c1 c1b c1c c2 c2b c2c c3 c3b c3c c4 c4b c5 c5b c5w c6 hx0 hx1 q0 q2 hcutv qav qbv qcv
        go_cut [13] (fun v13 wc => ∃ (Ay : Option Addr) (cy : Nat), v13 = .bool okb ∧ Aside0 (Kd.R k60 60 wc w.heap.size (fun k_ => w.heap.size ≤ k_) (.slice Ay sy.length cy) sy) ∧ Aside0 (Kd.R (Kd.int .u8) 5 wc w.heap.size (fun k_ => w.heap.size ≤ k_) (.slice Ad d.length cd) d) ∧ Aside0 (wc.heap[g6]? = some (.cells #[.int .i64 0, .int .i64 0, .int .i64 0, .int .i64 0, .int .i64 0, .int .i64 0, .int .i64 0, .bool false, .int .i64 0, .bool false, .slice none 0 0, .slice none 0 0] 25 (0, 0))) ∧ Aside0 (wc.heap[g8]? = some (.cells #[.int .i64 y0, .int .i64 y1, .int .i64 y2, .int .i64 y3, .int .i64 y4, .int .i64 y5, .int .i64 y6, .bool y7, .int .i64 y8, .bool y9, .slice Ay sy.length cy, .slice Ad d.length cd] 25 (0, 0))) ∧ Aside0 (wc.heap[g9]? = some (.cells #[.int .i64 0, .int .i64 0, .int .i64 0, .int .i64 0, .int .i64 0, .int .i64 0, .int .i64 0, .bool false, .int .i64 0, .bool false, .slice none 0 0, .slice none 0 0] 25 (0, 0))) ∧ Aside0 (Below w.heap.size w wc))
        case first =>
          as_aux_lemma =>
            have A := HO.out
            clear HO
            unfold impl_DecodeSegment.opt at A
            by_cases d2 : c = 2
            · rw [if_pos d2] at A
              have d2b : ((c) == 2) = true := beq_iff_eq.mpr d2
              have d2c : ((c) != 2) = false := bne_eq_false_iff_eq.mpr d2
              clear d2
              by_cases l2 : (yv.length : Int) = 2
              · rw [if_pos l2] at A
                have l2b : (((yv.length : Int)) == 2) = true := beq_iff_eq.mpr l2
                have l2c : (((yv.length : Int)) != 2) = false := bne_eq_false_iff_eq.mpr l2
                clear l2
                replace A := Option.bind_eq_some_iff.mp A
                obtain ⟨z, Az, A⟩ := A
                have FZ := Aside0.mk Az
                clear Az
                simp only [Option.some.injEq, Prod.mk.injEq] at A
                obtain ⟨rfl, rfl, rfl, rfl, rfl, rfl, rfl, rfl, rfl, rfl, rfl, rfl⟩ := A
                go_wp2_with (first | ((with_reducible refine gate_callee (f := 31) rfl ?_); refine goesL_ (some 137) rfl rfl Try.func31 (by kernel_rfl) rfl #[.slice Av yv.length cv] rfl wT ?_; (with_reducible refine (impl_get.calls k1 _ _ yv z _ ?side1 ?side2 FZ.out).mono ?_); (case side1 => exact Kd.C_below HYv.out B.out); (case side2 => exact HCv.out); rintro e u1 ⟨rfl, dd⟩; refine ⟨_, rfl, ?_⟩; have hb := dd.below; replace S := Aside0.mk (Kd.R_below S.out hb); replace D := Aside0.mk (Kd.R_below D.out hb); replace B := Aside0.mk (below_step B.out hb); replace K6 := Aside0.mk (blk_below K6.out hb); replace K8 := Aside0.mk (blk_below K8.out hb); replace K9 := Aside0.mk (blk_below K9.out hb); clear hb dd; obtain ⟨⟨hczs_0, hczs_1, hczs_2, hczs_3, hczs_4, hczs_5, hczs_6, hczs_7, hczs_8, hczs_9, hczs_10, hczs_11⟩, hfzs_0, hfzs_1, hfzs_2, hfzs_3, hfzs_4, hfzs_5, hfzs_6, hfzs_7, hfzs_8, hfzs_9, hfzs_10, hfzs_11⟩ := cells12 K8.out))
                go_meet
                case rel => exact ⟨As, cs, (by first | rfl | (simp; done) | (simp [*]; done) | (simp [errW_none, errW_some] <;> rfl) | (simp [*, errW_none, errW_some] <;> rfl)), ⟨Kd.R_mono (Kd.R_far (p := ⟨g8, 6, none⟩) (Kd.R_types S.out K8.out (by decide)) (fun _ hk => hk.2) (.int .i64 z)) (fun _ hk => hk.1)⟩, ⟨Kd.R_mono (Kd.R_far (p := ⟨g8, 6, none⟩) (Kd.R_types D.out K8.out (by decide)) (fun _ hk => hk.2) (.int .i64 z)) (fun _ hk => hk.1)⟩, ⟨(blk_far K6.out N68.out (.int .i64 z))⟩, ⟨(blk_put K8.out 6 (.int .i64 z) rfl)⟩, ⟨(blk_far K9.out N89.out.symm (.int .i64 z))⟩, ⟨(below_set B.out G8.out)⟩⟩
              · rw [if_neg l2] at A
                have l2b : (((yv.length : Int)) == 2) = false := beq_eq_false_iff_ne.mpr l2
                have l2c : (((yv.length : Int)) != 2) = true := bne_iff_ne.mpr l2
                clear l2
                simp only [Option.some.injEq, Prod.mk.injEq] at A
                obtain ⟨rfl, rfl, rfl, rfl, rfl, rfl, rfl, rfl, rfl, rfl, rfl, rfl⟩ := A
                go_wp2
                go_meet
                case rel => exact ⟨As, cs, (by first | rfl | (simp; done) | (simp [*]; done) | (simp [errW_none, errW_some] <;> rfl) | (simp [*, errW_none, errW_some] <;> rfl)), S, D, K6, K8, K9, B⟩
            rw [if_neg d2] at A
            have d2b : ((c) == 2) = false := beq_eq_false_iff_ne.mpr d2
            have d2c : ((c) != 2) = true := bne_iff_ne.mpr d2
            clear d2
            by_cases d3 : c = 3
            · rw [if_pos d3] at A
              have d3b : ((c) == 3) = true := beq_iff_eq.mpr d3
              have d3c : ((c) != 3) = false := bne_eq_false_iff_eq.mpr d3
              clear d3
              by_cases l3 : (yv.length : Int) = 1
              · rw [if_pos l3] at A
                have l3b : (((yv.length : Int)) == 1) = true := beq_iff_eq.mpr l3
                have l3c : (((yv.length : Int)) != 1) = false := bne_eq_false_iff_eq.mpr l3
                clear l3
                obtain ⟨z, hz⟩ : ∃ z_ : Int, mn (wrap64 (rd yv 0)) 14 = z_ := ⟨_, rfl⟩
                rw [hz] at A
                have hz_ : (if 14 < (wrap64 (rd yv 0)) then 14 else (wrap64 (rd yv 0))) = z := hz
                have hzw : (if 14 < (IntKind.i64.wrap (rd yv 0)) then 14 else (IntKind.i64.wrap (rd yv 0))) = z := by simp only [i64_w]; exact hz
                have HZ := Aside0.mk hz_
                have HZW := Aside0.mk hzw
                clear hz hz_ hzw
                simp only [Option.some.injEq, Prod.mk.injEq] at A
                obtain ⟨rfl, rfl, rfl, rfl, rfl, rfl, rfl, rfl, rfl, rfl, rfl, rfl⟩ := A
                go_upto_region 30 with (fail)
                have qy : (0 < yv.length) = True := eq_true (of_decide_eq_true (by have := of_decide_eq_true (show decide ((yv.length : Int) = 1) = true from by simpa using l3b); exact decide_eq_true (by omega)))
                have qyi : ((0 : Int) < (yv.length : Int)) = True := eq_true (by have := of_eq_true qy; omega)
                obtain ⟨adv, eav, hxv⟩ := Kd.at_int (Kd.C_below HYv.out B.out) 0 (by omega) (of_eq_true qyi)
                subst eav
                rw [show ((0 : Int)).toNat = 0 from rfl, Addr.add_zero'] at hxv
                have NAV : adv.block ≠ g8 := by
                  obtain ⟨adq, eaq, hxq⟩ := Kd.at_int HYv.out 0 (by omega) (of_eq_true qyi)
                  obtain rfl : adv = adq := (by injection eaq)
                  rw [show ((0 : Int)).toNat = 0 from rfl, Addr.add_zero'] at hxq
                  exact Nat.ne_of_lt (Nat.lt_of_lt_of_le (World.block_lt_of_cell? _ _ hxq) G8.out)
                have HNAV := Aside0.mk NAV
                clear NAV
                refine start_ (n := 9) (S := fun w' => w'.cell? adv = some (.int .u8 (rd yv 0))) (ds := [8]) #[false, false, false, false, false, false, false, false, false] (by kernel_rfl) rfl rfl hxv (fun hHeld => ?_)
                refine with_tabW impl_DecodeSegment.tab30 impl_DecodeSegment.bits30 (fun HT_ HW_ => ?_)
                replace B := Aside0.mk (below_drew1 B.out)
                replace K6 := Aside0.mk (blk_drew K6.out)
                replace K8 := Aside0.mk (blk_drew K8.out)
                replace K9 := Aside0.mk (blk_drew K9.out)
                replace S := Aside0.mk (Kd.R_drew S.out)
                replace D := Aside0.mk (Kd.R_drew D.out)
                generalize wr.drew = u0 at B K6 K8 K9 S D hHeld ⊢
                clear hxv
                have hz_ := HZ.out
                have hzw := HZW.out
                refine pure_ (i := 0) (N := some 145) (v := ?_) (a' := ?_) #[true, false, false, false, false, false, false, false, false] rfl rfl (any_of HT_.out (by kernel_rfl)) (fun _ _ _ h => h) (Or.inl ⟨by rfl, ?_⟩) ?_ ?_
                rotate_left
                {
                  intro w'
                  go_simp
                  with_reducible rfl
                }
                rotate_left
                {
                  simp only [Act.put, List.setIfInBounds_toArray, List.set_cons_zero, List.set_cons_succ, i64_w, i32_w]
                  rfl
                }
                refine pure_ (i := 1) (N := some 146) (v := ?_) (a' := ?_) #[true, true, false, false, false, false, false, false, false] rfl rfl (any_of HT_.out (by kernel_rfl)) (fun _ _ _ h => h) (Or.inl ⟨by rfl, ?_⟩) ?_ ?_
                rotate_left
                {
                  intro w'
                  go_simp
                  with_reducible rfl
                }
                rotate_left
                {
                  simp only [Act.put, List.setIfInBounds_toArray, List.set_cons_zero, List.set_cons_succ, i64_w, i32_w]
                  rfl
                }
                refine pure_ (i := 5) (N := some 150) (v := ?_) (a' := ?_) #[true, true, false, false, false, true, false, false, false] rfl rfl (any_of HT_.out (by kernel_rfl)) (fun _ _ _ h => h) (Or.inl ⟨by rfl, ?_⟩) ?_ ?_
                rotate_left
                {
                  intro w'
                  go_simp
                  with_reducible rfl
                }
                rotate_left
                {
                  simp only [Act.put, List.setIfInBounds_toArray, List.set_cons_zero, List.set_cons_succ, i64_w, i32_w]
                  rfl
                }
                refine take_ (i := 2) (N := some 147) (v := ?_) (a' := ?_) #[true, true, true, false, false, true, false, false, false] rfl rfl (take_ofW HT_.out HW_.out (by kernel_rfl)) (fun _ _ _ h => h) (Or.inl ⟨by rfl, ?_⟩) hHeld ?_ ?_
                rotate_left
                {
                  intro w' s0
                  go_simp
                  with_reducible rfl
                }
                rotate_left
                {
                  simp only [Act.put, List.setIfInBounds_toArray, List.set_cons_zero, List.set_cons_succ, i64_w, i32_w]
                  rfl
                }
                refine pure_ (i := 3) (N := some 148) (v := ?_) (a' := ?_) #[true, true, true, true, false, true, false, false, false] rfl rfl (any_of HT_.out (by kernel_rfl)) (fun _ _ _ h => h) (Or.inl ⟨by rfl, ?_⟩) ?_ ?_
                rotate_left
                {
                  intro w'
                  go_simp
                  with_reducible rfl
                }
                rotate_left
                {
                  simp only [Act.put, List.setIfInBounds_toArray, List.set_cons_zero, List.set_cons_succ, i64_w, i32_w]
                  rfl
                }
                refine pure_ (i := 4) (N := some 149) (v := ?_) (a' := ?_) #[true, true, true, true, true, true, false, false, false] rfl rfl (any_of HT_.out (by kernel_rfl)) (fun _ _ _ h => h) (Or.inl ⟨by rfl, ?_⟩) ?_ ?_
                rotate_left
                {
                  intro w'
                  go_simp
                  with_reducible rfl
                }
                rotate_left
                {
                  simp only [Act.put, List.setIfInBounds_toArray, List.set_cons_zero, List.set_cons_succ, i64_w, i32_w]
                  rfl
                }
                refine one_ (i := 6) (N := none) #[true, true, true, true, true, true, true, false, false] rfl rfl (one_of HT_.out (by kernel_rfl)) (by decide) (fun K hK => ?_)
                obtain ⟨⟨hczs_0, hczs_1, hczs_2, hczs_3, hczs_4, hczs_5, hczs_6, hczs_7, hczs_8, hczs_9, hczs_10, hczs_11⟩, hfzs_0, hfzs_1, hfzs_2, hfzs_3, hfzs_4, hfzs_5, hfzs_6, hfzs_7, hfzs_8, hfzs_9, hfzs_10, hfzs_11⟩ := cells12 K8.out
                refine skip_ (w1 := u0.setCell ⟨g8, 7, none⟩ (.bool true)) (by rfl) rfl ?_ ?_
                {
                  first | (go_simp; done) | (go_simp; rfl)
                }
                refine hK.out _ _ ((cell_far (p := ⟨g8, 7, none⟩) HNAV.out _).trans hHeld) (fun hHeld => ?_)
                clear hK K
                refine pure_ (i := 7) (N := some 151) (v := ?_) (a' := ?_) #[true, true, true, true, true, true, true, true, false] rfl rfl (any_of HT_.out (by kernel_rfl)) (fun _ _ _ h => h) (Or.inl ⟨by rfl, ?_⟩) ?_ ?_
                rotate_left
                {
                  intro w'
                  go_simp
                  with_reducible rfl
                }
                rotate_left
                {
                  simp only [Act.put, List.setIfInBounds_toArray, List.set_cons_zero, List.set_cons_succ, i64_w, i32_w]
                  rfl
                }
                refine last_ (i := 8) (N := none) #[true, true, true, true, true, true, true, true, true] rfl rfl (one_of HT_.out (by kernel_rfl)) (by decide) (fun K hK => ?_)
                refine skip_ (w1 := (u0.setCell ⟨g8, 7, none⟩ (.bool true)).setCell ⟨g8, 8, none⟩ (.int .i64 z)) (by rfl) rfl ?_ ?_
                {
                  first | (go_simp; done) | (go_simp; rfl)
                }
                refine hK.out _ _ ?_
                clear hK K
                refine done_ (done_of HT_.out (by kernel_rfl)) ?_
                clear HT_ HW_ hHeld
                go_wp2
                go_meet
                case rel => exact ⟨As, cs, (by first | rfl | (simp; done) | (simp [*]; done) | (simp [errW_none, errW_some] <;> rfl) | (simp [*, errW_none, errW_some] <;> rfl)), ⟨Kd.R_mono (Kd.R_far (p := ⟨g8, 8, none⟩) (Kd.R_far (p := ⟨g8, 7, none⟩) (Kd.R_types S.out K8.out (by decide)) (fun _ hk => hk.2) (.bool true)) (fun _ hk => hk.2) (.int .i64 z)) (fun _ hk => hk.1)⟩, ⟨Kd.R_mono (Kd.R_far (p := ⟨g8, 8, none⟩) (Kd.R_far (p := ⟨g8, 7, none⟩) (Kd.R_types D.out K8.out (by decide)) (fun _ hk => hk.2) (.bool true)) (fun _ hk => hk.2) (.int .i64 z)) (fun _ hk => hk.1)⟩, ⟨(blk_far (blk_far K6.out N68.out (.bool true)) N68.out (.int .i64 z))⟩, ⟨(blk_put (blk_put K8.out 7 (.bool true) rfl) 8 (.int .i64 z) rfl)⟩, ⟨(blk_far (blk_far K9.out N89.out.symm (.bool true)) N89.out.symm (.int .i64 z))⟩, ⟨(below_set (below_set B.out G8.out) G8.out)⟩⟩
              · rw [if_neg l3] at A
                have l3b : (((yv.length : Int)) == 1) = false := beq_eq_false_iff_ne.mpr l3
                have l3c : (((yv.length : Int)) != 1) = true := bne_iff_ne.mpr l3
                clear l3
                simp only [Option.some.injEq, Prod.mk.injEq] at A
                obtain ⟨rfl, rfl, rfl, rfl, rfl, rfl, rfl, rfl, rfl, rfl, rfl, rfl⟩ := A
                go_wp2
                go_meet
                case rel => exact ⟨As, cs, (by first | rfl | (simp; done) | (simp [*]; done) | (simp [errW_none, errW_some] <;> rfl) | (simp [*, errW_none, errW_some] <;> rfl)), S, D, K6, K8, K9, B⟩
            rw [if_neg d3] at A
            have d3b : ((c) == 3) = false := beq_eq_false_iff_ne.mpr d3
            have d3c : ((c) != 3) = true := bne_iff_ne.mpr d3
            clear d3
            by_cases d4 : c = 4
            · rw [if_pos d4] at A
              have d4b : ((c) == 4) = true := beq_iff_eq.mpr d4
              have d4c : ((c) != 4) = false := bne_eq_false_iff_eq.mpr d4
              clear d4
              by_cases l4 : (yv.length : Int) = 0
              · rw [if_pos l4] at A
                have l4b : (((yv.length : Int)) == 0) = true := beq_iff_eq.mpr l4
                have l4c : (((yv.length : Int)) != 0) = false := bne_eq_false_iff_eq.mpr l4
                clear l4
                simp only [Option.some.injEq, Prod.mk.injEq] at A
                obtain ⟨rfl, rfl, rfl, rfl, rfl, rfl, rfl, rfl, rfl, rfl, rfl, rfl⟩ := A
                obtain ⟨⟨hczs_0, hczs_1, hczs_2, hczs_3, hczs_4, hczs_5, hczs_6, hczs_7, hczs_8, hczs_9, hczs_10, hczs_11⟩, hfzs_0, hfzs_1, hfzs_2, hfzs_3, hfzs_4, hfzs_5, hfzs_6, hfzs_7, hfzs_8, hfzs_9, hfzs_10, hfzs_11⟩ := cells12 K8.out
                go_wp2
                go_meet
                case rel => exact ⟨As, cs, (by first | rfl | (simp; done) | (simp [*]; done) | (simp [errW_none, errW_some] <;> rfl) | (simp [*, errW_none, errW_some] <;> rfl)), ⟨Kd.R_mono (Kd.R_far (p := ⟨g8, 9, none⟩) (Kd.R_types S.out K8.out (by decide)) (fun _ hk => hk.2) (.bool true)) (fun _ hk => hk.1)⟩, ⟨Kd.R_mono (Kd.R_far (p := ⟨g8, 9, none⟩) (Kd.R_types D.out K8.out (by decide)) (fun _ hk => hk.2) (.bool true)) (fun _ hk => hk.1)⟩, ⟨(blk_far K6.out N68.out (.bool true))⟩, ⟨(blk_put K8.out 9 (.bool true) rfl)⟩, ⟨(blk_far K9.out N89.out.symm (.bool true))⟩, ⟨(below_set B.out G8.out)⟩⟩
              · rw [if_neg l4] at A
                have l4b : (((yv.length : Int)) == 0) = false := beq_eq_false_iff_ne.mpr l4
                have l4c : (((yv.length : Int)) != 0) = true := bne_iff_ne.mpr l4
                have l4d : ¬ yv = [] := fun h_ => l4 (by rw [h_]; rfl)
                clear l4
                simp only [Option.some.injEq, Prod.mk.injEq] at A
                obtain ⟨rfl, rfl, rfl, rfl, rfl, rfl, rfl, rfl, rfl, rfl, rfl, rfl⟩ := A
                obtain ⟨⟨hczs_0, hczs_1, hczs_2, hczs_3, hczs_4, hczs_5, hczs_6, hczs_7, hczs_8, hczs_9, hczs_10, hczs_11⟩, hfzs_0, hfzs_1, hfzs_2, hfzs_3, hfzs_4, hfzs_5, hfzs_6, hfzs_7, hfzs_8, hfzs_9, hfzs_10, hfzs_11⟩ := cells12 K8.out
                go_wp2
                go_meet
                case rel => exact ⟨As, cs, (by first | rfl | (simp; done) | (simp [*]; done) | (simp [errW_none, errW_some] <;> rfl) | (simp [*, errW_none, errW_some] <;> rfl)), ⟨Kd.R_mono (Kd.R_far (p := ⟨g8, 9, none⟩) (Kd.R_types S.out K8.out (by decide)) (fun _ hk => hk.2) (.bool true)) (fun _ hk => hk.1)⟩, ⟨Kd.R_mono (Kd.R_far (p := ⟨g8, 9, none⟩) (Kd.R_types D.out K8.out (by decide)) (fun _ hk => hk.2) (.bool true)) (fun _ hk => hk.1)⟩, ⟨(blk_far K6.out N68.out (.bool true))⟩, ⟨(blk_put K8.out 9 (.bool true) rfl)⟩, ⟨(blk_far K9.out N89.out.symm (.bool true))⟩, ⟨(below_set B.out G8.out)⟩⟩
            rw [if_neg d4] at A
            have d4b : ((c) == 4) = false := beq_eq_false_iff_ne.mpr d4
            have d4c : ((c) != 4) = true := bne_iff_ne.mpr d4
            clear d4
            by_cases d5 : c = 5
            · rw [if_pos d5] at A
              have d5b : ((c) == 5) = true := beq_iff_eq.mpr d5
              have d5c : ((c) != 5) = false := bne_eq_false_iff_eq.mpr d5
              clear d5
              by_cases m1 : 0 < (yv.length : Int)
              rotate_left
              · rw [if_neg m1] at A
                have m1b : decide (0 < (yv.length : Int)) = false := decide_eq_false m1
                have m1c : decide (0 < yv.length) = false := decide_eq_false (by omega)
                clear m1
                simp only [Option.some.injEq, Prod.mk.injEq] at A
                obtain ⟨rfl, rfl, rfl, rfl, rfl, rfl, rfl, rfl, rfl, rfl, rfl, rfl⟩ := A
                go_wp2
                go_meet
                case rel => exact ⟨As, cs, (by first | rfl | (simp; done) | (simp [*]; done) | (simp [errW_none, errW_some] <;> rfl) | (simp [*, errW_none, errW_some] <;> rfl)), S, D, K6, K8, K9, B⟩
              rw [if_pos m1] at A
              have m1b : decide (0 < (yv.length : Int)) = true := decide_eq_true m1
              have m1c : decide (0 < yv.length) = true := decide_eq_true (by omega)
              clear m1
              by_cases m2 : (yv.length : Int) % 8 = 0
              rotate_left
              · rw [if_neg m2] at A
                have m2b : (((yv.length : Int) % 8) == 0) = false := beq_eq_false_iff_ne.mpr m2
                have m2c : (((yv.length : Int) % 8) != 0) = true := bne_iff_ne.mpr m2
                clear m2
                simp only [Option.some.injEq, Prod.mk.injEq] at A
                obtain ⟨rfl, rfl, rfl, rfl, rfl, rfl, rfl, rfl, rfl, rfl, rfl, rfl⟩ := A
                go_wp2
                go_meet
                case rel => exact ⟨As, cs, (by first | rfl | (simp; done) | (simp [*]; done) | (simp [errW_none, errW_some] <;> rfl) | (simp [*, errW_none, errW_some] <;> rfl)), S, D, K6, K8, K9, B⟩
              rw [if_pos m2] at A
              have m2b : (((yv.length : Int) % 8) == 0) = true := beq_iff_eq.mpr m2
              have m2c : (((yv.length : Int) % 8) != 0) = false := bne_eq_false_iff_eq.mpr m2
              clear m2
              by_cases m3 : (yv.length : Int) ≤ 32
              rotate_left
              · rw [if_neg m3] at A
                have m3b : decide ((yv.length : Int) ≤ 32) = false := decide_eq_false m3
                have m3c : decide (yv.length ≤ 32) = false := decide_eq_false (by omega)
                clear m3
                simp only [Option.some.injEq, Prod.mk.injEq] at A
                obtain ⟨rfl, rfl, rfl, rfl, rfl, rfl, rfl, rfl, rfl, rfl, rfl, rfl⟩ := A
                go_wp2
                go_meet
                case rel => exact ⟨As, cs, (by first | rfl | (simp; done) | (simp [*]; done) | (simp [errW_none, errW_some] <;> rfl) | (simp [*, errW_none, errW_some] <;> rfl)), S, D, K6, K8, K9, B⟩
              rw [if_pos m3] at A
              have m3b : decide ((yv.length : Int) ≤ 32) = true := decide_eq_true m3
              have m3c : decide (yv.length ≤ 32) = true := decide_eq_true (by omega)
              clear m3
              replace A := Option.bind_eq_some_iff.mp A
              obtain ⟨sr, Az, A⟩ := A
              have HS := Aside0.mk Az
              clear Az
              simp only [Option.some.injEq, Prod.mk.injEq] at A
              obtain ⟨rfl, rfl, rfl, rfl, rfl, rfl, rfl, rfl, rfl, rfl, rfl, rfl⟩ := A
              obtain ⟨⟨hczs_0, hczs_1, hczs_2, hczs_3, hczs_4, hczs_5, hczs_6, hczs_7, hczs_8, hczs_9, hczs_10, hczs_11⟩, hfzs_0, hfzs_1, hfzs_2, hfzs_3, hfzs_4, hfzs_5, hfzs_6, hfzs_7, hfzs_8, hfzs_9, hfzs_10, hfzs_11⟩ := cells12 K8.out
              go_wp2
              obtain ⟨wo, hwo⟩ : ∃ w_ : World, w_ = wr := ⟨_, rfl⟩
              subst hwo
              go_loopg [14] k1 (fun kq v14 v => ∃ (i : Int) (Aq : Option Addr) (cq : Nat) (s2 : List (S60)), v14 = .int .i64 i ∧ Aside0 (impl_DecodeSegment.sacks kq i s2 yv = some sr) ∧ Aside0 (kq ≤ k1) ∧ Aside0 (Kd.R k60 60 v w.heap.size (fun k_ => w.heap.size ≤ k_) (.slice Aq s2.length cq) s2) ∧ Aside0 (Kd.R (Kd.int .u8) 5 v w.heap.size (fun k_ => w.heap.size ≤ k_) (.slice Ad d.length cd) d) ∧ Aside0 (v.heap[g6]? = some (.cells #[.int .i64 0, .int .i64 0, .int .i64 0, .int .i64 0, .int .i64 0, .int .i64 0, .int .i64 0, .bool false, .int .i64 0, .bool false, .slice none 0 0, .slice none 0 0] 25 (0, 0))) ∧ Aside0 (v.heap[g8]? = some (.cells #[.int .i64 x0, .int .i64 x1, .int .i64 x2, .int .i64 x3, .int .i64 x4, .int .i64 x5, .int .i64 x6, .bool x7, .int .i64 x8, .bool x9, .slice Aq s2.length cq, .slice Ad d.length cd] 25 (0, 0))) ∧ Aside0 (v.heap[g9]? = some (.cells #[.int .i64 0, .int .i64 0, .int .i64 0, .int .i64 0, .int .i64 0, .int .i64 0, .int .i64 0, .bool false, .int .i64 0, .bool false, .slice none 0 0, .slice none 0 0] 25 (0, 0))) ∧ Aside0 (Below w.heap.size w v))
              case atStart => exact ⟨0, none, 0, [], (by first | rfl | (simp; done) | (simp [*]; done) | (simp [errW_none, errW_some] <;> rfl) | (simp [*, errW_none, errW_some] <;> rfl)), HS, ⟨Nat.le_refl _⟩, ⟨Kd.R_nil _ _ _ _ _⟩, ⟨Kd.R_mono (Kd.R_far (p := ⟨g8, 10, none⟩) (Kd.R_types D.out K8.out (by decide)) (fun _ hk => hk.2) (.slice none 0 0)) (fun _ hk => hk.1)⟩, ⟨(blk_far K6.out N68.out (.slice none 0 0))⟩, ⟨(blk_put K8.out 10 (.slice none 0 0) rfl)⟩, ⟨(blk_far K9.out N89.out.symm (.slice none 0 0))⟩, ⟨(below_set B.out G8.out)⟩⟩
              case round =>
                clear HS S D K6 K8 K9 B
                clear hczs_0 hfzs_0 hczs_1 hfzs_1 hczs_2 hfzs_2 hczs_3 hfzs_3 hczs_4 hfzs_4 hczs_5 hfzs_5 hczs_6 hfzs_6 hczs_7 hfzs_7 hczs_8 hfzs_8 hczs_9 hfzs_9 hczs_10 hfzs_10 hczs_11 hfzs_11
                obtain ⟨i, Aq, cq, s2, rfl, HA, HK2, S, D, K6, K8, K9, B⟩ := hrel
                cases gk with
                | zero => exact absurd HA.out (by simp [impl_DecodeSegment.sacks])
                | succ k2 =>
                have H := HA.out
                clear HA
                simp only [impl_DecodeSegment.sacks] at H
                by_cases f1 : i < (yv.length : Int)
                rotate_left
                · rw [if_neg f1] at H
                  have f1b : decide (i < (yv.length : Int)) = false := decide_eq_false f1
                  clear f1
                  obtain rfl := Option.some.inj H
                  go_wp2
                  go_meet
                  case rel => exact ⟨Aq, cq, (by first | rfl | (simp; done) | (simp [*]; done) | (simp [errW_none, errW_some] <;> rfl) | (simp [*, errW_none, errW_some] <;> rfl)), S, D, K6, K8, K9, B⟩
                rw [if_pos f1] at H
                have f1b : decide (i < (yv.length : Int)) = true := decide_eq_true f1
                obtain ⟨⟨hczs_0, hczs_1, hczs_2, hczs_3, hczs_4, hczs_5, hczs_6, hczs_7, hczs_8, hczs_9, hczs_10, hczs_11⟩, hfzs_0, hfzs_1, hfzs_2, hfzs_3, hfzs_4, hfzs_5, hfzs_6, hfzs_7, hfzs_8, hfzs_9, hfzs_10, hfzs_11⟩ := cells12 K8.out
                by_cases f2 : (s2.length : Int) < 3
                rotate_left
                · rw [if_neg f2] at H
                  have f2b : decide ((s2.length : Int) < 3) = false := decide_eq_false f2
                  have f2c : decide (s2.length < 3) = false := decide_eq_false (by omega)
                  clear f1 f2
                  obtain rfl := Option.some.inj H
                  go_wp2
                  go_meet
                  case rel => exact ⟨Aq, cq, (by first | rfl | (simp; done) | (simp [*]; done) | (simp [errW_none, errW_some] <;> rfl) | (simp [*, errW_none, errW_some] <;> rfl)), S, D, K6, K8, K9, B⟩
                rw [if_pos f2] at H
                have f2b : decide ((s2.length : Int) < 3) = true := decide_eq_true f2
                have f2c : decide (s2.length < 3) = true := decide_eq_true (by omega)
                by_cases f3 : 0 ≤ i
                rotate_left
                · rw [if_neg f3] at H
                  cases H
                rw [if_pos f3] at H
                by_cases f4 : i ≤ wrap64 (i + 4)
                rotate_left
                · rw [if_neg f4] at H
                  cases H
                rw [if_pos f4] at H
                by_cases f5 : wrap64 (i + 4) ≤ wrap64 (i + 8)
                rotate_left
                · rw [if_neg f5] at H
                  cases H
                rw [if_pos f5] at H
                by_cases f6 : wrap64 (i + 8) ≤ (yv.length : Int)
                rotate_left
                · rw [if_neg f6] at H
                  cases H
                rw [if_pos f6] at H
                obtain ⟨j, hj⟩ : ∃ j_ : Int, wrap64 (i + 4) = j_ := ⟨_, rfl⟩
                obtain ⟨l, hl⟩ : ∃ j_ : Int, wrap64 (i + 8) = j_ := ⟨_, rfl⟩
                rw [hj, hl] at H
                rw [hj] at f4 f5
                rw [hl] at f5 f6
                have HJ := Aside0.mk hj
                have HJL := Aside0.mk hl
                clear hj hl
                replace H := Option.bind_eq_some_iff.mp H
                obtain ⟨p, Ap, H⟩ := H
                have FA := Aside0.mk Ap
                clear Ap
                replace H := Option.bind_eq_some_iff.mp H
                obtain ⟨q, Aq_, H⟩ := H
                have FB := Aside0.mk Aq_
                clear Aq_
                obtain ⟨s3, hs3⟩ : ∃ s_ : List (S60), s_ = s2 ++ [(⟨p, q⟩ : S60)] := ⟨_, rfl⟩
                rw [← hs3] at H
                have HS3 := Aside0.mk hs3
                clear hs3
                have H2 := Aside0.mk H
                clear H
                have HS2 := Aside0.mk f2
                clear f2
                obtain ⟨ia, hia, _, hsza, _⟩ := info_parts info5
                have qaa : (0 : Int) ≤ (i : Int) := f3
                have qba : (i : Int) ≤ (j : Int) := f4
                have qca : (j : Int) ≤ (yv.length : Int) := (by omega)
                have hcuta := cut_mid (P := Try.prog) 22 5 .i64 .i64 Try.underlying22 hia 1 hsza Av yv.length cv i j qaa qba qca HCv.out
                have hra := Kd.C_mid (lo := (i : Int).toNat) (hi := (j : Int).toNat) (c := cv) HYv.out (by omega) (by omega) HCv.out
                obtain ⟨Aa, hAa⟩ : ∃ Aq_, Aq_ = (if cv = (i : Int).toNat then Av else (Av : Option Addr).map (·.add ((i : Int).toNat * 1))) := ⟨_, rfl⟩
                obtain ⟨ca, hca⟩ : ∃ cq_, cq_ = cv - (i : Int).toNat := ⟨_, rfl⟩
                obtain ⟨ya, hya⟩ : ∃ y_ : List Int, y_ = (yv.take (j : Int).toNat).drop (i : Int).toNat := ⟨_, rfl⟩
                have hla : ya.length = (j : Int).toNat - (i : Int).toNat := by rw [hya, List.length_drop, List.length_take]; omega
                rw [← hya] at hra
                replace hra : Kd.C (Kd.int .u8) w Aa ya.length ya := by rw [hAa]; exact hra
                rw [← hla, ← hAa, ← hca] at hcuta
                have HYa := Aside0.mk hra
                have HCa := Aside0.mk (show ya.length ≤ ca from by have := HCv.out; rw [hla, hca]; omega)
                have HEa := Aside0.mk hya
                have HLa := Aside0.mk hla
                clear hra hia hsza hca hya hla hAa
                replace qaa := eq_true qaa
                replace qba := eq_true qba
                replace qca := eq_true qca
                obtain ⟨ib, hib, _, hszb, _⟩ := info_parts info5
                have qab : (0 : Int) ≤ (j : Int) := (by omega)
                have qbb : (j : Int) ≤ (l : Int) := f5
                have qcb : (l : Int) ≤ (yv.length : Int) := f6
                have hcutb := cut_mid (P := Try.prog) 22 5 .i64 .i64 Try.underlying22 hib 1 hszb Av yv.length cv j l qab qbb qcb HCv.out
                have hrb := Kd.C_mid (lo := (j : Int).toNat) (hi := (l : Int).toNat) (c := cv) HYv.out (by omega) (by omega) HCv.out
                obtain ⟨Ab, hAb⟩ : ∃ Aq_, Aq_ = (if cv = (j : Int).toNat then Av else (Av : Option Addr).map (·.add ((j : Int).toNat * 1))) := ⟨_, rfl⟩
                obtain ⟨cb, hcb⟩ : ∃ cq_, cq_ = cv - (j : Int).toNat := ⟨_, rfl⟩
                obtain ⟨yb, hyb⟩ : ∃ y_ : List Int, y_ = (yv.take (l : Int).toNat).drop (j : Int).toNat := ⟨_, rfl⟩
                have hlb : yb.length = (l : Int).toNat - (j : Int).toNat := by rw [hyb, List.length_drop, List.length_take]; omega
                rw [← hyb] at hrb
                replace hrb : Kd.C (Kd.int .u8) w Ab yb.length yb := by rw [hAb]; exact hrb
                rw [← hlb, ← hAb, ← hcb] at hcutb
                have HYb := Aside0.mk hrb
                have HCb := Aside0.mk (show yb.length ≤ cb from by have := HCv.out; rw [hlb, hcb]; omega)
                have HEb := Aside0.mk hyb
                have HLb := Aside0.mk hlb
                clear hrb hib hszb hcb hyb hlb hAb
                replace qab := eq_true qab
                replace qbb := eq_true qbb
                replace qcb := eq_true qcb
                replace FA : Aside0 (impl_get.f k2 ya = some p) := ⟨by rw [HEa.out]; exact FA.out⟩
                replace FB : Aside0 (impl_get.f k2 yb = some q) := ⟨by rw [HEb.out]; exact FB.out⟩
                clear f1 f3 f4 f5 f6
                have hj := HJ.out
                have hjw : IntKind.i64.wrap (i + 4) = j := (i64_w _).trans hj
                have hl := HJL.out
                have hlw : IntKind.i64.wrap (i + 8) = l := (i64_w _).trans hl
                go_upto_region 41 with (fail)
                refine start_ (n := 20) (S := fun w' => w'.cell? ⟨g8, 10, none⟩ = some (.slice Aq s2.length cq)) (ds := [19]) #[false, false, false, false, false, false, false, false, false, false, false, false, false, false, false, false, false, false, false, false] (by kernel_rfl) rfl rfl ((blk_cell K8.out 10).trans rfl) (fun hHeld => ?_)
                refine with_tabW impl_DecodeSegment.tab41 impl_DecodeSegment.bits41 (fun HT_ HW_ => ?_)
                clear hczs_0 hfzs_0 hczs_1 hfzs_1 hczs_2 hfzs_2 hczs_3 hfzs_3 hczs_4 hfzs_4 hczs_5 hfzs_5 hczs_6 hfzs_6 hczs_7 hfzs_7 hczs_8 hfzs_8 hczs_9 hfzs_9 hczs_10 hfzs_10 hczs_11 hfzs_11
                replace B := Aside0.mk (below_drew1 B.out)
                replace K6 := Aside0.mk (blk_drew K6.out)
                replace K8 := Aside0.mk (blk_drew K8.out)
                replace K9 := Aside0.mk (blk_drew K9.out)
                replace S := Aside0.mk (Kd.R_drew S.out)
                replace D := Aside0.mk (Kd.R_drew D.out)
                generalize wr.drew = u0 at B K6 K8 K9 S D hHeld ⊢
                refine pure_ (i := 0) (N := some 188) (v := ?_) (a' := ?_) #[true, false, false, false, false, false, false, false, false, false, false, false, false, false, false, false, false, false, false, false] rfl rfl (any_of HT_.out (by kernel_rfl)) (fun _ _ _ h => h) (Or.inl ⟨by rfl, ?_⟩) ?_ ?_
                rotate_left
                {
                  intro w'
                  go_simp
                  with_reducible rfl
                }
                rotate_left
                {
                  simp only [Act.put, List.setIfInBounds_toArray, List.set_cons_zero, List.set_cons_succ, i64_w, i32_w]
                  rfl
                }
                refine pure_ (i := 2) (N := some 190) (v := ?_) (a' := ?_) #[true, false, true, false, false, false, false, false, false, false, false, false, false, false, false, false, false, false, false, false] rfl rfl (any_of HT_.out (by kernel_rfl)) (fun _ _ _ h => h) (Or.inl ⟨by rfl, ?_⟩) ?_ ?_
                rotate_left
                {
                  intro w'
                  go_simp
                  with_reducible rfl
                }
                rotate_left
                {
                  simp only [Act.put, List.setIfInBounds_toArray, List.set_cons_zero, List.set_cons_succ, i64_w, i32_w]
                  rfl
                }
                refine pure_ (i := 3) (N := some 191) (v := ?_) (a' := ?_) #[true, false, true, true, false, false, false, false, false, false, false, false, false, false, false, false, false, false, false, false] rfl rfl (any_of HT_.out (by kernel_rfl)) (fun _ _ _ h => h) (Or.inl ⟨by rfl, ?_⟩) ?_ ?_
                rotate_left
                {
                  intro w'
                  go_simp
                  with_reducible rfl
                }
                rotate_left
                {
                  simp only [Act.put, List.setIfInBounds_toArray, List.set_cons_zero, List.set_cons_succ, i64_w, i32_w]
                  rfl
                }
                refine pure_ (i := 4) (N := some 192) (v := ?_) (a' := ?_) #[true, false, true, true, true, false, false, false, false, false, false, false, false, false, false, false, false, false, false, false] rfl rfl (any_of HT_.out (by kernel_rfl)) (fun _ _ _ h => h) (Or.inl ⟨by rfl, ?_⟩) ?_ ?_
                rotate_left
                {
                  intro w'
                  go_simp
                  with_reducible rfl
                }
                rotate_left
                {
                  simp only [Act.put, List.setIfInBounds_toArray, List.set_cons_zero, List.set_cons_succ, i64_w, i32_w]
                  rfl
                }
                refine pure_ (i := 5) (N := some 193) (v := ?_) (a' := ?_) #[true, false, true, true, true, true, false, false, false, false, false, false, false, false, false, false, false, false, false, false] rfl rfl (any_of HT_.out (by kernel_rfl)) (fun _ _ _ h => h) (Or.inl ⟨by rfl, ?_⟩) ?_ ?_
                rotate_left
                {
                  intro w'
                  go_simp
                  with_reducible rfl
                }
                rotate_left
                {
                  simp only [Act.put, List.setIfInBounds_toArray, List.set_cons_zero, List.set_cons_succ, i64_w, i32_w]
                  rfl
                }
                refine pure_ (i := 6) (N := some 194) (v := ?_) (a' := ?_) #[true, false, true, true, true, true, true, false, false, false, false, false, false, false, false, false, false, false, false, false] rfl rfl (any_of HT_.out (by kernel_rfl)) (fun _ _ _ h => h) (Or.inl ⟨by rfl, ?_⟩) ?_ ?_
                rotate_left
                {
                  intro w'
                  go_simp
                  with_reducible rfl
                }
                rotate_left
                {
                  simp only [Act.put, List.setIfInBounds_toArray, List.set_cons_zero, List.set_cons_succ, i64_w, i32_w]
                  rfl
                }
                refine pure_ (i := 8) (N := some 196) (v := ?_) (a' := ?_) #[true, false, true, true, true, true, true, false, true, false, false, false, false, false, false, false, false, false, false, false] rfl rfl (any_of HT_.out (by kernel_rfl)) (fun _ _ _ h => h) (Or.inl ⟨by rfl, ?_⟩) ?_ ?_
                rotate_left
                {
                  intro w'
                  go_simp
                  with_reducible rfl
                }
                rotate_left
                {
                  simp only [Act.put, List.setIfInBounds_toArray, List.set_cons_zero, List.set_cons_succ, i64_w, i32_w]
                  rfl
                }
                refine pure_ (i := 9) (N := some 197) (v := ?_) (a' := ?_) #[true, false, true, true, true, true, true, false, true, true, false, false, false, false, false, false, false, false, false, false] rfl rfl (any_of HT_.out (by kernel_rfl)) (fun _ _ _ h => h) (Or.inl ⟨by rfl, ?_⟩) ?_ ?_
                rotate_left
                {
                  intro w'
                  go_simp
                  with_reducible rfl
                }
                rotate_left
                {
                  simp only [Act.put, List.setIfInBounds_toArray, List.set_cons_zero, List.set_cons_succ, i64_w, i32_w]
                  rfl
                }
                refine pure_ (i := 10) (N := some 198) (v := ?_) (a' := ?_) #[true, false, true, true, true, true, true, false, true, true, true, false, false, false, false, false, false, false, false, false] rfl rfl (any_of HT_.out (by kernel_rfl)) (fun _ _ _ h => h) (Or.inl ⟨by rfl, ?_⟩) ?_ ?_
                rotate_left
                {
                  intro w'
                  go_simp
                  with_reducible rfl
                }
                rotate_left
                {
                  simp only [Act.put, List.setIfInBounds_toArray, List.set_cons_zero, List.set_cons_succ, i64_w, i32_w]
                  rfl
                }
                refine pure_ (i := 11) (N := some 199) (v := ?_) (a' := ?_) #[true, false, true, true, true, true, true, false, true, true, true, true, false, false, false, false, false, false, false, false] rfl rfl (any_of HT_.out (by kernel_rfl)) (fun _ _ _ h => h) (Or.inl ⟨by rfl, ?_⟩) ?_ ?_
                rotate_left
                {
                  intro w'
                  go_simp
                  with_reducible rfl
                }
                rotate_left
                {
                  simp only [Act.put, List.setIfInBounds_toArray, List.set_cons_zero, List.set_cons_succ, i64_w, i32_w]
                  rfl
                }
                refine pure_ (i := 12) (N := some 200) (v := ?_) (a' := ?_) #[true, false, true, true, true, true, true, false, true, true, true, true, true, false, false, false, false, false, false, false] rfl rfl (any_of HT_.out (by kernel_rfl)) (fun _ _ _ h => h) (Or.inl ⟨by rfl, ?_⟩) ?_ ?_
                rotate_left
                {
                  intro w'
                  go_simp
                  with_reducible rfl
                }
                rotate_left
                {
                  simp only [Act.put, List.setIfInBounds_toArray, List.set_cons_zero, List.set_cons_succ, i64_w, i32_w]
                  rfl
                }
                refine pure_ (i := 13) (N := some 201) (v := ?_) (a' := ?_) #[true, false, true, true, true, true, true, false, true, true, true, true, true, true, false, false, false, false, false, false] rfl rfl (any_of HT_.out (by kernel_rfl)) (fun _ _ _ h => h) (Or.inl ⟨by rfl, ?_⟩) ?_ ?_
                rotate_left
                {
                  intro w'
                  go_simp
                  with_reducible rfl
                }
                rotate_left
                {
                  simp only [Act.put, List.setIfInBounds_toArray, List.set_cons_zero, List.set_cons_succ, i64_w, i32_w]
                  rfl
                }
                refine take_ (i := 1) (N := some 189) (v := ?_) (a' := ?_) #[true, true, true, true, true, true, true, false, true, true, true, true, true, true, false, false, false, false, false, false] rfl rfl (take_ofW HT_.out HW_.out (by kernel_rfl)) (fun _ _ _ h => h) (Or.inl ⟨by rfl, ?_⟩) hHeld ?_ ?_
                rotate_left
                {
                  intro w' s0
                  go_simp
                  with_reducible rfl
                }
                rotate_left
                {
                  simp only [Act.put, List.setIfInBounds_toArray, List.set_cons_zero, List.set_cons_succ, i64_w, i32_w]
                  rfl
                }
                refine one_ (i := 7) (N := some 195) #[true, true, true, true, true, true, true, true, true, true, true, true, true, true, false, false, false, false, false, false] rfl rfl (one_of HT_.out (by kernel_rfl)) (by decide) (fun K hK => ?_)
                refine goes_ Try.func31 (by kernel_rfl) rfl #[.slice Aa ya.length ca] (by rfl) rfl rfl wT ?_
                with_reducible refine (impl_get.calls k2 _ _ ya p _ ?side1 ?side2 FA.out).mono ?_
                (case side1 => exact Kd.C_below HYa.out B.out)
                (case side2 => exact HCa.out)
                rintro e u1 ⟨rfl, dd⟩
                have hb := dd.below
                refine ⟨_, rfl, ?_⟩
                replace B := Aside0.mk (below_step B.out hb)
                replace K6 := Aside0.mk (blk_below K6.out hb)
                replace K8 := Aside0.mk (blk_below K8.out hb)
                replace K9 := Aside0.mk (blk_below K9.out hb)
                replace S := Aside0.mk (Kd.R_below S.out hb)
                replace D := Aside0.mk (Kd.R_below D.out hb)
                clear hb dd hHeld
                refine hK.out _ _ ((blk_cell K8.out 10).trans rfl) (fun hHeld => ?_)
                clear hK K
                refine norm_ (a' := ?_) ?_ ?_
                rotate_left
                {
                  show Act.put _ (some 195) _ = _
                  simp only [Act.put, List.setIfInBounds_toArray, List.set_cons_zero, List.set_cons_succ, i64_w, i32_w]
                  rfl
                }
                refine one_ (i := 14) (N := some 202) #[true, true, true, true, true, true, true, true, true, true, true, true, true, true, true, false, false, false, false, false] rfl rfl (one_of HT_.out (by kernel_rfl)) (by decide) (fun K hK => ?_)
                refine goes_ Try.func31 (by kernel_rfl) rfl #[.slice Ab yb.length cb] (by rfl) rfl rfl wT ?_
                with_reducible refine (impl_get.calls k2 _ _ yb q _ ?side1 ?side2 FB.out).mono ?_
                (case side1 => exact Kd.C_below HYb.out B.out)
                (case side2 => exact HCb.out)
                rintro e u2 ⟨rfl, dd⟩
                have hb := dd.below
                refine ⟨_, rfl, ?_⟩
                replace B := Aside0.mk (below_step B.out hb)
                replace K6 := Aside0.mk (blk_below K6.out hb)
                replace K8 := Aside0.mk (blk_below K8.out hb)
                replace K9 := Aside0.mk (blk_below K9.out hb)
                replace S := Aside0.mk (Kd.R_below S.out hb)
                replace D := Aside0.mk (Kd.R_below D.out hb)
                clear hb dd hHeld
                refine hK.out _ _ ((blk_cell K8.out 10).trans rfl) (fun hHeld => ?_)
                clear hK K
                refine norm_ (a' := ?_) ?_ ?_
                rotate_left
                {
                  show Act.put _ (some 202) _ = _
                  simp only [Act.put, List.setIfInBounds_toArray, List.set_cons_zero, List.set_cons_succ, i64_w, i32_w]
                  rfl
                }
                refine pure_ (i := 15) (N := some 203) (v := ?_) (a' := ?_) #[true, true, true, true, true, true, true, true, true, true, true, true, true, true, true, true, false, false, false, false] rfl rfl (any_of HT_.out (by kernel_rfl)) (fun _ _ _ h => h) (Or.inl ⟨by rfl, ?_⟩) ?_ ?_
                rotate_left
                {
                  intro w'
                  go_simp
                  with_reducible rfl
                }
                rotate_left
                {
                  simp only [Act.put, List.setIfInBounds_toArray, List.set_cons_zero, List.set_cons_succ, i64_w, i32_w]
                  rfl
                }
                refine one_ (i := 16) (N := some 204) #[true, true, true, true, true, true, true, true, true, true, true, true, true, true, true, true, true, false, false, false] rfl rfl (one_of HT_.out (by kernel_rfl)) (by decide) (fun K hK => ?_)
                refine value_ (w1 := ?_) (v := ?_) (by rfl) rfl ?_ ?_
                rotate_left 2
                {
                  go_simp
                  constructor
                  rfl
                  rfl
                }
                clear hHeld
                refine hK.out _ _ ((blk_cell (blk_alloc K8.out _) 10).trans rfl) (fun hHeld => ?_)
                clear hK K
                refine norm_ (a' := ?_) ?_ ?_
                rotate_left
                {
                  show Act.put _ (some 204) _ = _
                  simp only [Act.put, List.setIfInBounds_toArray, List.set_cons_zero, List.set_cons_succ, i64_w, i32_w]
                  rfl
                }
                refine one_ (i := 17) (N := some 205) #[true, true, true, true, true, true, true, true, true, true, true, true, true, true, true, true, true, true, false, false] rfl rfl (one_of HT_.out (by kernel_rfl)) (by decide) (fun K hK => ?_)
                refine Kd.R_append_step k60 (w0 := w) w.heap.size (by rfl) (.tmp 189) (.tmp 204) 23 60 (.agg #[(.int .i64 0), (.int .i64 0)]) 16 rfl Try.underlying23 info60 rfl (by decide) (by omega) (.slice Aq s2.length cq) s2 (⟨p, q⟩ : S60) [.int .i64 p, .int .i64 q] (fun k_ => w.heap.size ≤ k_) (fun _ => False) rfl rfl ?aP (fun _ hk => hk.elim) ?aF ?aO ?aB ?aS ?aL ?_
                (case aP => exact k60_mkM _ _ _ (⟨p, q⟩ : S60))
                (case aB => exact B.out)
                (case aF => exact (fun k_ hk => (Nat.le_trans B.out.size hk)))
                (case aO => exact S.out)
                (case aS => exact B.out.size)
                (case aL => have := HS2.out; omega)
                intro v1_ u4 ho hb hg hat
                rw [← HS3.out] at ho
                replace D := Aside0.mk (Kd.R_over' D.out (Kd.R_typed S.out) (by decide) hg)
                replace K6 := Aside0.mk (blk_grown K6.out hg (Kd.R_ne S.out K6.out (by decide)))
                replace K8 := Aside0.mk (blk_grown K8.out hg (Kd.R_ne S.out K8.out (by decide)))
                replace K9 := Aside0.mk (blk_grown K9.out hg (Kd.R_ne S.out K9.out (by decide)))
                replace B := Aside0.mk hb
                clear S
                have S := Aside0.mk ho
                clear ho hb hg hat hHeld
                obtain ⟨Az, cz, ez⟩ := Kd.R_slice S.out
                subst ez
                refine hK.out _ _ ((blk_cell K8.out 10).trans rfl) (fun hHeld => ?_)
                clear hK K
                refine norm_ (a' := ?_) ?_ ?_
                rotate_left
                {
                  show Act.put _ (some 205) _ = _
                  simp only [Act.put, List.setIfInBounds_toArray, List.set_cons_zero, List.set_cons_succ, i64_w, i32_w]
                  rfl
                }
                refine pure_ (i := 18) (N := some 206) (v := ?_) (a' := ?_) #[true, true, true, true, true, true, true, true, true, true, true, true, true, true, true, true, true, true, true, false] rfl rfl (any_of HT_.out (by kernel_rfl)) (fun _ _ _ h => h) (Or.inl ⟨by rfl, ?_⟩) ?_ ?_
                rotate_left
                {
                  intro w'
                  go_simp
                  with_reducible rfl
                }
                rotate_left
                {
                  simp only [Act.put, List.setIfInBounds_toArray, List.set_cons_zero, List.set_cons_succ, i64_w, i32_w]
                  rfl
                }
                refine last_ (i := 19) (N := none) #[true, true, true, true, true, true, true, true, true, true, true, true, true, true, true, true, true, true, true, true] rfl rfl (one_of HT_.out (by kernel_rfl)) (by decide) (fun K hK => ?_)
                obtain ⟨⟨hczs_0, hczs_1, hczs_2, hczs_3, hczs_4, hczs_5, hczs_6, hczs_7, hczs_8, hczs_9, hczs_10, hczs_11⟩, hfzs_0, hfzs_1, hfzs_2, hfzs_3, hfzs_4, hfzs_5, hfzs_6, hfzs_7, hfzs_8, hfzs_9, hfzs_10, hfzs_11⟩ := cells12 K8.out
                refine skip_ (w1 := u4.setCell ⟨g8, 10, none⟩ (.slice Az s3.length cz)) (by rfl) rfl ?_ ?_
                {
                  first | (go_simp; done) | (go_simp; rfl)
                }
                refine hK.out _ _ ?_
                clear hK K
                refine done_ (done_of HT_.out (by kernel_rfl)) ?_
                clear HT_ HW_ hHeld
                clear hczs_0 hfzs_0 hczs_1 hfzs_1 hczs_2 hfzs_2 hczs_3 hfzs_3 hczs_4 hfzs_4 hczs_5 hfzs_5 hczs_6 hfzs_6 hczs_7 hfzs_7 hczs_8 hfzs_8 hczs_9 hfzs_9 hczs_10 hfzs_10 hczs_11 hfzs_11
                go_wp2
                go_roundg k2
                case measure => have := HK2.out; omega
                case rel => exact ⟨l, Az, cz, s3, (by first | rfl | (simp; done) | (simp [*]; done) | (simp [errW_none, errW_some] <;> rfl) | (simp [*, errW_none, errW_some] <;> rfl)), H2, ⟨by have := HK2.out; omega⟩, ⟨Kd.R_mono (Kd.R_far (p := ⟨g8, 10, none⟩) (Kd.R_types S.out K8.out (by decide)) (fun _ hk => hk.2) (.slice Az s3.length cz)) (fun _ hk => hk.1)⟩, ⟨Kd.R_mono (Kd.R_far (p := ⟨g8, 10, none⟩) (Kd.R_types D.out K8.out (by decide)) (fun _ hk => hk.2) (.slice Az s3.length cz)) (fun _ hk => hk.1)⟩, ⟨(blk_far K6.out N68.out (.slice Az s3.length cz))⟩, ⟨(blk_put K8.out 10 (.slice Az s3.length cz) rfl)⟩, ⟨(blk_far K9.out N89.out.symm (.slice Az s3.length cz))⟩, ⟨(below_set B.out G8.out)⟩⟩
            rw [if_neg d5] at A
            have d5b : ((c) == 5) = false := beq_eq_false_iff_ne.mpr d5
            have d5c : ((c) != 5) = true := bne_iff_ne.mpr d5
            clear d5
            simp only [Option.some.injEq, Prod.mk.injEq] at A
            obtain ⟨rfl, rfl, rfl, rfl, rfl, rfl, rfl, rfl, rfl, rfl, rfl, rfl⟩ := A
            go_wp2
            go_meet
            case rel => exact ⟨As, cs, (by first | rfl | (simp; done) | (simp [*]; done) | (simp [errW_none, errW_some] <;> rfl) | (simp [*, errW_none, errW_some] <;> rfl)), S, D, K6, K8, K9, B⟩
        case rest =>
          clear S D K6 K8 K9 B HO
          obtain ⟨Ay, cy, rfl, S, D, K6, K8, K9, B⟩ := hcut
          have H := HF.out
          clear HF
          cases okb with
          | false =>
            rw [if_neg (by decide)] at H
            simp only [Option.some.injEq, Prod.mk.injEq] at H
            obtain ⟨rfl, rfl, rfl, rfl, rfl, rfl, rfl, rfl, rfl, rfl, rfl, rfl⟩ := H
            have H : some (0, 0, 0, 0, 0, 0, 0, false, 0, false, [], [], 10) = some (r0, r1, r2, r3, r4, r5, r6, r7, r8, r9, r10, r11, r12) := FIN.out
            clear FIN
            simp only [Option.some.injEq, Prod.mk.injEq] at H
            obtain ⟨rfl, rfl, rfl, rfl, rfl, rfl, rfl, rfl, rfl, rfl, rfl, rfl, rfl⟩ := H
            obtain ⟨⟨hcza_0, hcza_1, hcza_2, hcza_3, hcza_4, hcza_5, hcza_6, hcza_7, hcza_8, hcza_9, hcza_10, hcza_11⟩, hfza_0, hfza_1, hfza_2, hfza_3, hfza_4, hfza_5, hfza_6, hfza_7, hfza_8, hfza_9, hfza_10, hfza_11⟩ := cells12 K6.out
            obtain ⟨⟨hczb_0, hczb_1, hczb_2, hczb_3, hczb_4, hczb_5, hczb_6, hczb_7, hczb_8, hczb_9, hczb_10, hczb_11⟩, hfzb_0, hfzb_1, hfzb_2, hfzb_3, hfzb_4, hfzb_5, hfzb_6, hfzb_7, hfzb_8, hfzb_9, hfzb_10, hfzb_11⟩ := cells12 K9.out
            go_wp2_with (first
                | ((with_reducible refine gate_store (t := 25) (p := 6) rfl ?_); refine store_event (t := 25) (p := 6) (v := ?vo_13) (w1 := put12 wc g6 (.int .i64 0) (.int .i64 0) (.int .i64 0) (.int .i64 0) (.int .i64 0) (.int .i64 0) (.int .i64 0) (.bool false) (.int .i64 0) (.bool false) (.slice none 0 0) (.slice none 0 0)) ?hg ?ho ?hn ?hr ?_; (case ho => rfl); (case hg => rfl); (case hn => rfl); (case hr => first | (go_simp; done) | (go_simp; rfl)); intro vS hw; replace K6 : Aside0 (vS.heap[g6]? = some (.cells #[.int .i64 0, .int .i64 0, .int .i64 0, .int .i64 0, .int .i64 0, .int .i64 0, .int .i64 0, .bool false, .int .i64 0, .bool false, .slice none 0 0, .slice none 0 0] 25 (0, 0))) := ⟨by rw [hw]; exact set12 K6.out⟩; replace B : Aside0 (Below w.heap.size w vS) := ⟨by rw [hw]; refine below_set ?_ G6.out; refine below_set ?_ G6.out; refine below_set ?_ G6.out; refine below_set ?_ G6.out; refine below_set ?_ G6.out; refine below_set ?_ G6.out; refine below_set ?_ G6.out; refine below_set ?_ G6.out; refine below_set ?_ G6.out; refine below_set ?_ G6.out; refine below_set ?_ G6.out; refine below_set ?_ G6.out; exact B.out⟩; clear hw; skip))
            refine bodyPost_ret (results_ct rfl _ _ g6 25 #[.int .i64 0, .int .i64 0, .int .i64 0, .int .i64 0, .int .i64 0, .int .i64 0, .int .i64 0, .bool false, .int .i64 0, .bool false, .slice none 0 0, .slice none 0 0] (0, 0) _ rfl K6.out Try.underlying25 rfl (by kernel_rfl)) rfl ?_
            exact ⟨.slice none 0 0, .slice none 0 0, (by first | rfl | (simp; done) | (simp [*]; done) | (simp [errW_none, errW_some] <;> rfl) | (simp [*, errW_none, errW_some] <;> rfl)), Kd.R_nil _ _ _ _ _, Kd.R_nil _ _ _ _ _, B.out⟩
          | true =>
            rw [if_pos rfl] at H
            obtain ⟨ip, hip, _, hszp, _⟩ := info_parts info5
            have qap : (0 : Int) ≤ (m : Int) := (by have := HM2.out; omega)
            have qbp : (m : Int) ≤ (b.length : Int) := HMB.out
            have hcutp := cut_from (P := Try.prog) 22 5 .u8 Try.underlying22 hip 1 hszp (some ad) b.length cb m qap qbp
            have hrp := Kd.C_drop (m := (m : Int).toNat) (c := cb) HC.out (by omega) HCC.out
            obtain ⟨Ap, hAp⟩ : ∃ Aq_, Aq_ = (if cb = (m : Int).toNat then (some ad) else ((some ad) : Option Addr).map (·.add ((m : Int).toNat * 1))) := ⟨_, rfl⟩
            obtain ⟨cp, hcp⟩ : ∃ cq_, cq_ = cb - (m : Int).toNat := ⟨_, rfl⟩
            obtain ⟨yp, hyp⟩ : ∃ y_ : List Int, y_ = b.drop (m : Int).toNat := ⟨_, rfl⟩
            have hlp : yp.length = b.length - (m : Int).toNat := by rw [hyp, List.length_drop]
            rw [← hyp] at hrp
            replace hrp : Kd.C (Kd.int .u8) w Ap yp.length yp := by rw [hAp]; exact hrp
            rw [← hlp, ← hAp, ← hcp] at hcutp
            have HYp := Aside0.mk hrp
            have HCp := Aside0.mk (show yp.length ≤ cp from by have := HCC.out; rw [hlp, hcp]; omega)
            have HEp := Aside0.mk hyp
            clear hrp hip hszp hcp hyp hlp hAp
            replace qap := eq_true qap
            replace qbp := eq_true qbp
            have H2 : Aside0 (impl_DecodeSegment.l0 k1 y0 y1 y2 y3 y4 y5 y6 y7 y8 y9 sy yp = some (e0, e1, e2, e3, e4, e5, e6, e7, e8, e9, se, ok)) := ⟨by rw [HEp.out]; exact H⟩
            clear H
            obtain ⟨ad2, ead, hx1⟩ := Kd.at_int (Kd.C_below HC.out B.out) 1 (by omega) (by have := HM2.out; have := HMB.out; omega)
            obtain rfl : ad = ad2 := (by injection ead)
            simp only [show (1 : Int).toNat = 1 from rfl, Nat.reduceMul, Nat.reduceEqDiff, Go.Addr.add, ↓reduceIte] at hx1
            clear ead
            have q2 : (1 < b.length) = True := eq_true (by have := HM2.out; have := HMB.out; omega)
            have q2i : ((1 : Int) < (b.length : Int)) = True := eq_true (by have := HM2.out; have := HMB.out; omega)
            rw [← HME.out] at hx1
            go_wp2
            go_roundg k1
            case measure => have := HK1.out; omega
            case rel => exact ⟨y0, y1, y2, y3, y4, y5, y6, y7, y8, y9, Ay, cy, sy, Ap, cp, yp, (by first | rfl | (simp; done) | (simp [*]; done) | (simp [errW_none, errW_some] <;> rfl) | (simp [*, errW_none, errW_some] <;> rfl)), H2, ⟨by have := HK1.out; omega⟩, S, D, HYp, HCp, K6, K8, K9, B⟩
theorem impl_DecodeSegment.walk (k : Nat) (A0 : Option Addr) (c0 : Nat) (l0 : List Int) (a1 a2 : Int) (r0 : Int) (r1 : Int) (r2 : Int) (r3 : Int) (r4 : Int) (r5 : Int) (r6 : Int) (r7 : Bool) (r8 : Int) (r9 : Bool) (r10 : List (S60)) (r11 : List Int) (r12 : Int) (w : World) (hr0 : Kd.C (Kd.int .u8) w A0 l0.length l0) (hc0 : l0.length ≤ c0) (h : impl_DecodeSegment.f k l0 a1 a2 = some (r0, r1, r2, r3, r4, r5, r6, r7, r8, r9, r10, r11, r12)) :
    Calls Try.prog 7 #[.slice A0 l0.length c0, .int .i64 a1, .int .i64 a2] w (impl_DecodeSegment.Post r0 r1 r2 r3 r4 r5 r6 r7 r8 r9 r10 r11 r12 w) := by
  by_cases hG : impl_DecodeSegment.Good k l0 a1 a2
  · exact impl_DecodeSegment.main k A0 c0 l0 a1 a2 r0 r1 r2 r3 r4 r5 r6 r7 r8 r9 r10 r11 r12 w hr0 hc0 h hG
  · exact impl_DecodeSegment.early k A0 c0 l0 a1 a2 r0 r1 r2 r3 r4 r5 r6 r7 r8 r9 r10 r11 r12 w hr0 hc0 h hG
theorem impl_DecodeSegment.calls (k : Nat) (A0 : Option Addr) (c0 : Nat) (l0 : List Int) (a1 a2 : Int) (r0 : Int) (r1 : Int) (r2 : Int) (r3 : Int) (r4 : Int) (r5 : Int) (r6 : Int) (r7 : Bool) (r8 : Int) (r9 : Bool) (r10 : List (S60)) (r11 : List Int) (r12 : Int) (w : World) (hr0 : Kd.C (Kd.int .u8) w A0 l0.length l0) (hc0 : l0.length ≤ c0) (h : impl_DecodeSegment.f k l0 a1 a2 = some (r0, r1, r2, r3, r4, r5, r6, r7, r8, r9, r10, r11, r12)) :
    Calls Try.prog 7 #[.slice A0 l0.length c0, .int .i64 a1, .int .i64 a2] w fun e w' => ∃ v10_ v11_ : Value, e = .returned (.tuple #[.agg #[.int .i64 r0, .int .i64 r1, .int .i64 r2, .int .i64 r3, .int .i64 r4, .int .i64 r5, .int .i64 r6, .bool r7, .int .i64 r8, .bool r9, v10_, v11_], .int .i64 r12]) ∧ Kd.R k60 60 w' w.heap.size (fun k_ => w.heap.size ≤ k_) v10_ r10 ∧ Kd.R (Kd.int .u8) 5 w' w.heap.size (fun k_ => w.heap.size ≤ k_) v11_ r11 ∧ Below w.heap.size w w' := (impl_DecodeSegment.walk k A0 c0 l0 a1 a2 r0 r1 r2 r3 r4 r5 r6 r7 r8 r9 r10 r11 r12 w hr0 hc0 h).mono fun _ _ h => h


end Go.Proofs.Ytfllcmeakcbiaaa.PFnExactDecodeSegment
