-- Written for this claim by a program of this session (wip/mkprint.py: the print, turned at a few places). Not trusted: Lean checks it.
import Derived.Test.YtobaoffcepmeiaaPFnExactEncodeSegmentx0
namespace Go.Proofs.Ytobaoffcepmeiaa.PFnExactEncodeSegment
open Go.RowKit Go.Proofs.YtobaoffcepmeiaaW.PrintWords Go.Proofs.YtobaoffcepmeiaaW.PrintLast Go.Proofs.YtobaoffcepmeiaaW.PrintMore
attribute [local go_sem] max2_int min2_int max_two min_two max_three min_three max_four min_four   -- for this text's walks alone
set_option linter.unusedVariables false
set_option linter.unusedSimpArgs false

/-! ### impl_isAddr: function 83 -/
def impl_isAddr.f (a0 : Int) : Option (Bool) := if a0 ≥ 0 then (some (decide (a0 ≤ 4294967295))) else (some false)
set_option maxHeartbeats 8000000 in
set_option maxRecDepth 100000 in
theorem impl_isAddr.calls (a0 : Int) (r : Bool) (w : World) (h : impl_isAddr.f a0 = some r) :
 Calls Try.prog 83 #[.int .i64 a0] w fun e w' => e = .returned (.bool r) ∧ Drawn0 w w' := by
 have H : (if a0 ≥ 0 then (some (decide (a0 ≤ 4294967295))) else (some false)) = some r := h
 clear h
 by_cases c2 : a0 ≥ 0
 {
 rw [if_pos c2] at H
 have c2b0 : decide (0 ≤ a0) = true := decide_eq_true c2
 clear c2
 obtain rfl := Option.some.inj H
 go_enter Try.func83, Try.ntmps83
 go_wp2
 go_ret
 exact ⟨by first | rfl | (simp; done) | (simp [*]; done), by repeat (first | exact Drawn0.refl _ | apply Drawn0.step)⟩
 }
 {
 rw [if_neg c2] at H
 have c2b0 : decide (0 ≤ a0) = false := decide_eq_false c2
 clear c2
 obtain rfl := Option.some.inj H
 go_enter Try.func83, Try.ntmps83
 go_wp2
 go_ret
 exact ⟨by first | rfl | (simp; done) | (simp [*]; done), by repeat (first | exact Drawn0.refl _ | apply Drawn0.step)⟩
 }

/-! ### impl_isPort: function 152 -/
def impl_isPort.f (a0 : Int) : Option (Bool) := if a0 ≥ 0 then (some (decide (a0 ≤ 65535))) else (some false)
set_option maxHeartbeats 8000000 in
set_option maxRecDepth 100000 in
theorem impl_isPort.calls (a0 : Int) (r : Bool) (w : World) (h : impl_isPort.f a0 = some r) :
 Calls Try.prog 152 #[.int .i64 a0] w fun e w' => e = .returned (.bool r) ∧ Drawn0 w w' := by
 have H : (if a0 ≥ 0 then (some (decide (a0 ≤ 65535))) else (some false)) = some r := h
 clear h
 by_cases c2 : a0 ≥ 0
 {
 rw [if_pos c2] at H
 have c2b0 : decide (0 ≤ a0) = true := decide_eq_true c2
 clear c2
 obtain rfl := Option.some.inj H
 go_enter Try.func152, Try.ntmps152
 go_wp2
 go_ret
 exact ⟨by first | rfl | (simp; done) | (simp [*]; done), by repeat (first | exact Drawn0.refl _ | apply Drawn0.step)⟩
 }
 {
 rw [if_neg c2] at H
 have c2b0 : decide (0 ≤ a0) = false := decide_eq_false c2
 clear c2
 obtain rfl := Option.some.inj H
 go_enter Try.func152, Try.ntmps152
 go_wp2
 go_ret
 exact ⟨by first | rfl | (simp; done) | (simp [*]; done), by repeat (first | exact Drawn0.refl _ | apply Drawn0.step)⟩
 }

/-! ### impl_isSeq: function 153 -/
def impl_isSeq.f (a0 : Int) : Option (Bool) := if a0 ≥ 0 then (some (decide (a0 ≤ 4294967295))) else (some false)
set_option maxHeartbeats 8000000 in
set_option maxRecDepth 100000 in
theorem impl_isSeq.calls (a0 : Int) (r : Bool) (w : World) (h : impl_isSeq.f a0 = some r) :
 Calls Try.prog 153 #[.int .i64 a0] w fun e w' => e = .returned (.bool r) ∧ Drawn0 w w' := by
 have H : (if a0 ≥ 0 then (some (decide (a0 ≤ 4294967295))) else (some false)) = some r := h
 clear h
 by_cases c2 : a0 ≥ 0
 {
 rw [if_pos c2] at H
 have c2b0 : decide (0 ≤ a0) = true := decide_eq_true c2
 clear c2
 obtain rfl := Option.some.inj H
 go_enter Try.func153, Try.ntmps153
 go_wp2
 go_ret
 exact ⟨by first | rfl | (simp; done) | (simp [*]; done), by repeat (first | exact Drawn0.refl _ | apply Drawn0.step)⟩
 }
 {
 rw [if_neg c2] at H
 have c2b0 : decide (0 ≤ a0) = false := decide_eq_false c2
 clear c2
 obtain rfl := Option.some.inj H
 go_enter Try.func153, Try.ntmps153
 go_wp2
 go_ret
 exact ⟨by first | rfl | (simp; done) | (simp [*]; done), by repeat (first | exact Drawn0.refl _ | apply Drawn0.step)⟩
 }

/-! ### impl_okSegment: function 126 -/
mutual
def impl_okSegment.j0 : Nat → Bool → Int → Int → Int → Int → Int → Int → Int → Bool → Int → Bool → List (S157) → List Int → Option (Bool)
  | 0, _, _, _, _, _, _, _, _, _, _, _, _, _ => none
  | k + 1, x74, x309000, x309001, x309002, x309003, x309004, x309005, x309006, x309007, x309008, x309009, x309010, x309011 => if x74 = true then (some false) else (impl_okSegment.l0 k x309010 (x309010.length : Int) 0)
def impl_okSegment.l0 : Nat → List (S157) → Int → Int → Option (Bool)
  | 0, _, _, _ => none
  | k + 1, x76, x77, x78 => if x78 < x77 then (if 0 ≤ x78 then (if x78 < (x76.length : Int) then ((impl_isSeq.f ((rd_T157 x76 x78).f0)).bind fun t317 => (if t317 = true then ((impl_isSeq.f ((rd_T157 x76 x78).f1)).bind fun t318 => (if t318 = true then (impl_okSegment.l0 k x76 x77 (wrap64 (x78 + 1))) else (some false))) else (some false))) else (none)) else (none)) else (some true)
end
def impl_okSegment.f (k : Nat) (a0_0 : Int) (a0_1 : Int) (a0_2 : Int) (a0_3 : Int) (a0_4 : Int) (a0_5 : Int) (a0_6 : Int) (a0_7 : Bool) (a0_8 : Int) (a0_9 : Bool) (l0_10 : List (S157)) (l0_11 : List Int) : Option (Bool) := (impl_isPort.f a0_0).bind fun t309 => (if t309 = true then ((impl_isPort.f a0_1).bind fun t310 => (if t310 = true then ((impl_isSeq.f a0_2).bind fun t311 => (if t311 = true then ((impl_isSeq.f a0_3).bind fun t312 => (if t312 = true then (if a0_4 < 0 then (impl_okSegment.j0 k true a0_0 a0_1 a0_2 a0_3 a0_4 a0_5 a0_6 a0_7 a0_8 a0_9 l0_10 l0_11) else (if a0_4 > 63 then (impl_okSegment.j0 k true a0_0 a0_1 a0_2 a0_3 a0_4 a0_5 a0_6 a0_7 a0_8 a0_9 l0_10 l0_11) else ((impl_isPort.f a0_5).bind fun t313 => (if t313 = true then ((impl_isPort.f a0_6).bind fun t314 => (if t314 = true then (if a0_8 < 0 then (impl_okSegment.j0 k true a0_0 a0_1 a0_2 a0_3 a0_4 a0_5 a0_6 a0_7 a0_8 a0_9 l0_10 l0_11) else (if a0_8 > 14 then (impl_okSegment.j0 k true a0_0 a0_1 a0_2 a0_3 a0_4 a0_5 a0_6 a0_7 a0_8 a0_9 l0_10 l0_11) else (if a0_7 = true then (impl_okSegment.j0 k (decide ((l0_10.length : Int) > 3)) a0_0 a0_1 a0_2 a0_3 a0_4 a0_5 a0_6 a0_7 a0_8 a0_9 l0_10 l0_11) else (if a0_8 = 0 then (impl_okSegment.j0 k (decide ((l0_10.length : Int) > 3)) a0_0 a0_1 a0_2 a0_3 a0_4 a0_5 a0_6 a0_7 a0_8 a0_9 l0_10 l0_11) else (impl_okSegment.j0 k true a0_0 a0_1 a0_2 a0_3 a0_4 a0_5 a0_6 a0_7 a0_8 a0_9 l0_10 l0_11))))) else (impl_okSegment.j0 k true a0_0 a0_1 a0_2 a0_3 a0_4 a0_5 a0_6 a0_7 a0_8 a0_9 l0_10 l0_11))) else (impl_okSegment.j0 k true a0_0 a0_1 a0_2 a0_3 a0_4 a0_5 a0_6 a0_7 a0_8 a0_9 l0_10 l0_11))))) else (impl_okSegment.j0 k true a0_0 a0_1 a0_2 a0_3 a0_4 a0_5 a0_6 a0_7 a0_8 a0_9 l0_10 l0_11))) else (impl_okSegment.j0 k true a0_0 a0_1 a0_2 a0_3 a0_4 a0_5 a0_6 a0_7 a0_8 a0_9 l0_10 l0_11))) else (impl_okSegment.j0 k true a0_0 a0_1 a0_2 a0_3 a0_4 a0_5 a0_6 a0_7 a0_8 a0_9 l0_10 l0_11))) else (impl_okSegment.j0 k true a0_0 a0_1 a0_2 a0_3 a0_4 a0_5 a0_6 a0_7 a0_8 a0_9 l0_10 l0_11))
theorem impl_okSegment.mono_l : ∀ k, (∀ y0 y1 y2 y3 y4 y5 y6 y7 y8 y9 y10 y11 y12, LeO (impl_okSegment.j0 k y0 y1 y2 y3 y4 y5 y6 y7 y8 y9 y10 y11 y12) (impl_okSegment.j0 (k + 1) y0 y1 y2 y3 y4 y5 y6 y7 y8 y9 y10 y11 y12)) ∧ (∀ y0 y1 y2, LeO (impl_okSegment.l0 k y0 y1 y2) (impl_okSegment.l0 (k + 1) y0 y1 y2))
  | 0 => ⟨fun _ _ _ _ _ _ _ _ _ _ _ _ _ r h => by simp [impl_okSegment.j0] at h, fun _ _ _ r h => by simp [impl_okSegment.l0] at h⟩
  | k + 1 => by
    obtain ⟨ih0, ih1⟩ := impl_okSegment.mono_l k
    refine ⟨?_, ?_⟩
    · intro y0 y1 y2 y3 y4 y5 y6 y7 y8 y9 y10 y11 y12
      unfold impl_okSegment.j0
      repeat' first
      | (with_reducible exact ih0 _ _ _ _ _ _ _ _ _ _ _ _ _)
      | (with_reducible exact ih1 _ _ _)
      | (with_reducible exact LeO.refl _)
      | (with_reducible exact LeO.none _)
      | (with_reducible refine LeO.ite ?_ ?_)
      | (with_reducible refine LeO.bind ?_ (fun _ => ?_))
      | exact ih0 _ _ _ _ _ _ _ _ _ _ _ _ _
      | exact ih1 _ _ _
      | exact LeO.none _
      | refine LeO.ite ?_ ?_
      | refine LeO.bind ?_ (fun _ => ?_)
    · intro y0 y1 y2
      unfold impl_okSegment.l0
      repeat' first
      | (with_reducible exact ih0 _ _ _ _ _ _ _ _ _ _ _ _ _)
      | (with_reducible exact ih1 _ _ _)
      | (with_reducible exact LeO.refl _)
      | (with_reducible exact LeO.none _)
      | (with_reducible refine LeO.ite ?_ ?_)
      | (with_reducible refine LeO.bind ?_ (fun _ => ?_))
      | exact ih0 _ _ _ _ _ _ _ _ _ _ _ _ _
      | exact ih1 _ _ _
      | exact LeO.none _
      | refine LeO.ite ?_ ?_
      | refine LeO.bind ?_ (fun _ => ?_)
theorem impl_okSegment.mono : ∀ a0 a1 a2 a3 a4 a5 a6 a7 a8 a9 a10 a11 k, LeO (impl_okSegment.f k a0 a1 a2 a3 a4 a5 a6 a7 a8 a9 a10 a11) (impl_okSegment.f (k + 1) a0 a1 a2 a3 a4 a5 a6 a7 a8 a9 a10 a11) := by
 intro a0 a1 a2 a3 a4 a5 a6 a7 a8 a9 a10 a11 k
 obtain ⟨ih0, ih1⟩ := impl_okSegment.mono_l k
 unfold impl_okSegment.f
 repeat' first
     | (with_reducible exact ih0 _ _ _ _ _ _ _ _ _ _ _ _ _)
     | (with_reducible exact ih1 _ _ _)
     | (with_reducible exact LeO.refl _)
     | (with_reducible exact LeO.none _)
     | (with_reducible refine LeO.ite ?_ ?_)
     | (with_reducible refine LeO.bind ?_ (fun _ => ?_))
     | exact ih0 _ _ _ _ _ _ _ _ _ _ _ _ _
     | exact ih1 _ _ _
     | exact LeO.none _
     | refine LeO.ite ?_ ?_
     | refine LeO.bind ?_ (fun _ => ?_)
set_option maxHeartbeats 8000000 in
set_option maxRecDepth 100000 in
theorem impl_okSegment.calls (k : Nat) (a0_0 : Int) (a0_1 : Int) (a0_2 : Int) (a0_3 : Int) (a0_4 : Int) (a0_5 : Int) (a0_6 : Int) (a0_7 : Bool) (a0_8 : Int) (a0_9 : Bool) (A0_10 : Option Addr) (c0_10 : Nat) (l0_10 : List (S157)) (A0_11 : Option Addr) (c0_11 : Nat) (l0_11 : List Int) (r : Bool) (w : World) (hr0_10 : Kd.C k157 w A0_10 l0_10.length l0_10) (hc0_10 : l0_10.length ≤ c0_10) (hr0_11 : Kd.C (Kd.int .u8) w A0_11 l0_11.length l0_11) (hc0_11 : l0_11.length ≤ c0_11) (h : impl_okSegment.f k a0_0 a0_1 a0_2 a0_3 a0_4 a0_5 a0_6 a0_7 a0_8 a0_9 l0_10 l0_11 = some r) :
 Calls Try.prog 126 #[.agg #[.int .i64 a0_0, .int .i64 a0_1, .int .i64 a0_2, .int .i64 a0_3, .int .i64 a0_4, .int .i64 a0_5, .int .i64 a0_6, .bool a0_7, .int .i64 a0_8, .bool a0_9, .slice A0_10 l0_10.length c0_10, .slice A0_11 l0_11.length c0_11]] w fun e w' => e = .returned (.bool r) ∧ Below w.heap.size w w' := by
 have hu51 := Try.underlying51
 have hu157 := Try.underlying157
 have HR0_10 := Aside0.mk hr0_10
 have HC0_10 := Aside0.mk hc0_10
 clear hr0_10 hc0_10
 have HR0_11 := Aside0.mk hr0_11
 have HC0_11 := Aside0.mk hc0_11
 clear hr0_11 hc0_11
 have HB := Aside0.mk (Below.refl w.heap.size w)
 have H : ((impl_isPort.f a0_0).bind fun t309 => (if t309 = true then ((impl_isPort.f a0_1).bind fun t310 => (if t310 = true then ((impl_isSeq.f a0_2).bind fun t311 => (if t311 = true then ((impl_isSeq.f a0_3).bind fun t312 => (if t312 = true then (if a0_4 < 0 then (impl_okSegment.j0 k true a0_0 a0_1 a0_2 a0_3 a0_4 a0_5 a0_6 a0_7 a0_8 a0_9 l0_10 l0_11) else (if a0_4 > 63 then (impl_okSegment.j0 k true a0_0 a0_1 a0_2 a0_3 a0_4 a0_5 a0_6 a0_7 a0_8 a0_9 l0_10 l0_11) else ((impl_isPort.f a0_5).bind fun t313 => (if t313 = true then ((impl_isPort.f a0_6).bind fun t314 => (if t314 = true then (if a0_8 < 0 then (impl_okSegment.j0 k true a0_0 a0_1 a0_2 a0_3 a0_4 a0_5 a0_6 a0_7 a0_8 a0_9 l0_10 l0_11) else (if a0_8 > 14 then (impl_okSegment.j0 k true a0_0 a0_1 a0_2 a0_3 a0_4 a0_5 a0_6 a0_7 a0_8 a0_9 l0_10 l0_11) else (if a0_7 = true then (impl_okSegment.j0 k (decide ((l0_10.length : Int) > 3)) a0_0 a0_1 a0_2 a0_3 a0_4 a0_5 a0_6 a0_7 a0_8 a0_9 l0_10 l0_11) else (if a0_8 = 0 then (impl_okSegment.j0 k (decide ((l0_10.length : Int) > 3)) a0_0 a0_1 a0_2 a0_3 a0_4 a0_5 a0_6 a0_7 a0_8 a0_9 l0_10 l0_11) else (impl_okSegment.j0 k true a0_0 a0_1 a0_2 a0_3 a0_4 a0_5 a0_6 a0_7 a0_8 a0_9 l0_10 l0_11))))) else (impl_okSegment.j0 k true a0_0 a0_1 a0_2 a0_3 a0_4 a0_5 a0_6 a0_7 a0_8 a0_9 l0_10 l0_11))) else (impl_okSegment.j0 k true a0_0 a0_1 a0_2 a0_3 a0_4 a0_5 a0_6 a0_7 a0_8 a0_9 l0_10 l0_11))))) else (impl_okSegment.j0 k true a0_0 a0_1 a0_2 a0_3 a0_4 a0_5 a0_6 a0_7 a0_8 a0_9 l0_10 l0_11))) else (impl_okSegment.j0 k true a0_0 a0_1 a0_2 a0_3 a0_4 a0_5 a0_6 a0_7 a0_8 a0_9 l0_10 l0_11))) else (impl_okSegment.j0 k true a0_0 a0_1 a0_2 a0_3 a0_4 a0_5 a0_6 a0_7 a0_8 a0_9 l0_10 l0_11))) else (impl_okSegment.j0 k true a0_0 a0_1 a0_2 a0_3 a0_4 a0_5 a0_6 a0_7 a0_8 a0_9 l0_10 l0_11))) = some r := h
 clear h
 have HC2 := Aside0.mk H
 clear H
 go_enter Try.func126, Try.ntmps126
 go_upto_region 1 with (first | ((with_reducible refine gate_dst (N := 1) rfl ?_); (try (refine gate_guard (by rfl) ?_; dsimp only)); refine box_event ?hg (N := 1) ?hd (cs := #[.int .i64 a0_0, .int .i64 a0_1, .int .i64 a0_2, .int .i64 a0_3, .int .i64 a0_4, .int .i64 a0_5, .int .i64 a0_6, .bool a0_7, .int .i64 a0_8, .bool a0_9, .slice A0_10 l0_10.length c0_10, .slice A0_11 l0_11.length c0_11]) (t := 51) ?hr ?_; (case hd => rfl); (case hg => rfl); (case hr => first | (go_simp; done) | (go_simp; rfl)); intro gb308 hg w3 hbox hb; have n0_ := Aside0.mk (below_step wB hb); have n1_ := Aside0.mk (hbox); have n2_ := Aside0.mk ((by rw [hg]; exact (below_size wB) : w.heap.size ≤ gb308)); have n3_ := Aside0.mk ((by rw [hg]; exact (below_size wB) : w.heap.size ≤ gb308)); clear HB; have HB := n0_; have BK308 := n1_; have GW308 := n2_; have GE308 := n3_; clear n0_ n1_ n2_ n3_; clear hb hbox hg))
 (try simp only [Act.put, List.setIfInBounds_toArray, List.set_cons_zero, List.set_cons_succ])
 go_cut [74] (fun v74 wc => ∃ (kq : Nat) (x74_1 : Bool), v74 = .bool x74_1 ∧ Aside0 (impl_okSegment.j0 kq x74_1 a0_0 a0_1 a0_2 a0_3 a0_4 a0_5 a0_6 a0_7 a0_8 a0_9 l0_10 l0_11 = some r) ∧ Aside0 (kq ≤ k) ∧ Aside0 (wc.heap[gb308]? = some (.cells #[.int .i64 a0_0, .int .i64 a0_1, .int .i64 a0_2, .int .i64 a0_3, .int .i64 a0_4, .int .i64 a0_5, .int .i64 a0_6, .bool a0_7, .int .i64 a0_8, .bool a0_9, (.slice A0_10 l0_10.length c0_10), (.slice A0_11 l0_11.length c0_11)] 51 (0, 0))) ∧ Aside0 (Below w.heap.size w wc))
 case first => (
 have H := HC2.out
 clear HC2
 replace H := Option.bind_eq_some_iff.mp H
 obtain ⟨t309, A40, H⟩ := H
 replace H : (if t309 = true then ((impl_isPort.f a0_1).bind fun t310 => (if t310 = true then ((impl_isSeq.f a0_2).bind fun t311 => (if t311 = true then ((impl_isSeq.f a0_3).bind fun t312 => (if t312 = true then (if a0_4 < 0 then (impl_okSegment.j0 k true a0_0 a0_1 a0_2 a0_3 a0_4 a0_5 a0_6 a0_7 a0_8 a0_9 l0_10 l0_11) else (if a0_4 > 63 then (impl_okSegment.j0 k true a0_0 a0_1 a0_2 a0_3 a0_4 a0_5 a0_6 a0_7 a0_8 a0_9 l0_10 l0_11) else ((impl_isPort.f a0_5).bind fun t313 => (if t313 = true then ((impl_isPort.f a0_6).bind fun t314 => (if t314 = true then (if a0_8 < 0 then (impl_okSegment.j0 k true a0_0 a0_1 a0_2 a0_3 a0_4 a0_5 a0_6 a0_7 a0_8 a0_9 l0_10 l0_11) else (if a0_8 > 14 then (impl_okSegment.j0 k true a0_0 a0_1 a0_2 a0_3 a0_4 a0_5 a0_6 a0_7 a0_8 a0_9 l0_10 l0_11) else (if a0_7 = true then (impl_okSegment.j0 k (decide ((l0_10.length : Int) > 3)) a0_0 a0_1 a0_2 a0_3 a0_4 a0_5 a0_6 a0_7 a0_8 a0_9 l0_10 l0_11) else (if a0_8 = 0 then (impl_okSegment.j0 k (decide ((l0_10.length : Int) > 3)) a0_0 a0_1 a0_2 a0_3 a0_4 a0_5 a0_6 a0_7 a0_8 a0_9 l0_10 l0_11) else (impl_okSegment.j0 k true a0_0 a0_1 a0_2 a0_3 a0_4 a0_5 a0_6 a0_7 a0_8 a0_9 l0_10 l0_11))))) else (impl_okSegment.j0 k true a0_0 a0_1 a0_2 a0_3 a0_4 a0_5 a0_6 a0_7 a0_8 a0_9 l0_10 l0_11))) else (impl_okSegment.j0 k true a0_0 a0_1 a0_2 a0_3 a0_4 a0_5 a0_6 a0_7 a0_8 a0_9 l0_10 l0_11))))) else (impl_okSegment.j0 k true a0_0 a0_1 a0_2 a0_3 a0_4 a0_5 a0_6 a0_7 a0_8 a0_9 l0_10 l0_11))) else (impl_okSegment.j0 k true a0_0 a0_1 a0_2 a0_3 a0_4 a0_5 a0_6 a0_7 a0_8 a0_9 l0_10 l0_11))) else (impl_okSegment.j0 k true a0_0 a0_1 a0_2 a0_3 a0_4 a0_5 a0_6 a0_7 a0_8 a0_9 l0_10 l0_11))) else (impl_okSegment.j0 k true a0_0 a0_1 a0_2 a0_3 a0_4 a0_5 a0_6 a0_7 a0_8 a0_9 l0_10 l0_11)) = some r := H
 have A4 := Aside0.mk A40
 clear A40
 by_cases c5 : t309 = true
 {
 subst c5
 have H1 : ((impl_isPort.f a0_1).bind fun t310 => (if t310 = true then ((impl_isSeq.f a0_2).bind fun t311 => (if t311 = true then ((impl_isSeq.f a0_3).bind fun t312 => (if t312 = true then (if a0_4 < 0 then (impl_okSegment.j0 k true a0_0 a0_1 a0_2 a0_3 a0_4 a0_5 a0_6 a0_7 a0_8 a0_9 l0_10 l0_11) else (if a0_4 > 63 then (impl_okSegment.j0 k true a0_0 a0_1 a0_2 a0_3 a0_4 a0_5 a0_6 a0_7 a0_8 a0_9 l0_10 l0_11) else ((impl_isPort.f a0_5).bind fun t313 => (if t313 = true then ((impl_isPort.f a0_6).bind fun t314 => (if t314 = true then (if a0_8 < 0 then (impl_okSegment.j0 k true a0_0 a0_1 a0_2 a0_3 a0_4 a0_5 a0_6 a0_7 a0_8 a0_9 l0_10 l0_11) else (if a0_8 > 14 then (impl_okSegment.j0 k true a0_0 a0_1 a0_2 a0_3 a0_4 a0_5 a0_6 a0_7 a0_8 a0_9 l0_10 l0_11) else (if a0_7 = true then (impl_okSegment.j0 k (decide ((l0_10.length : Int) > 3)) a0_0 a0_1 a0_2 a0_3 a0_4 a0_5 a0_6 a0_7 a0_8 a0_9 l0_10 l0_11) else (if a0_8 = 0 then (impl_okSegment.j0 k (decide ((l0_10.length : Int) > 3)) a0_0 a0_1 a0_2 a0_3 a0_4 a0_5 a0_6 a0_7 a0_8 a0_9 l0_10 l0_11) else (impl_okSegment.j0 k true a0_0 a0_1 a0_2 a0_3 a0_4 a0_5 a0_6 a0_7 a0_8 a0_9 l0_10 l0_11))))) else (impl_okSegment.j0 k true a0_0 a0_1 a0_2 a0_3 a0_4 a0_5 a0_6 a0_7 a0_8 a0_9 l0_10 l0_11))) else (impl_okSegment.j0 k true a0_0 a0_1 a0_2 a0_3 a0_4 a0_5 a0_6 a0_7 a0_8 a0_9 l0_10 l0_11))))) else (impl_okSegment.j0 k true a0_0 a0_1 a0_2 a0_3 a0_4 a0_5 a0_6 a0_7 a0_8 a0_9 l0_10 l0_11))) else (impl_okSegment.j0 k true a0_0 a0_1 a0_2 a0_3 a0_4 a0_5 a0_6 a0_7 a0_8 a0_9 l0_10 l0_11))) else (impl_okSegment.j0 k true a0_0 a0_1 a0_2 a0_3 a0_4 a0_5 a0_6 a0_7 a0_8 a0_9 l0_10 l0_11))) = some r := by rw [if_pos rfl] at H; exact H
 clear H
 have H := H1
 clear H1
 replace H := Option.bind_eq_some_iff.mp H
 obtain ⟨t310, A60, H⟩ := H
 replace H : (if t310 = true then ((impl_isSeq.f a0_2).bind fun t311 => (if t311 = true then ((impl_isSeq.f a0_3).bind fun t312 => (if t312 = true then (if a0_4 < 0 then (impl_okSegment.j0 k true a0_0 a0_1 a0_2 a0_3 a0_4 a0_5 a0_6 a0_7 a0_8 a0_9 l0_10 l0_11) else (if a0_4 > 63 then (impl_okSegment.j0 k true a0_0 a0_1 a0_2 a0_3 a0_4 a0_5 a0_6 a0_7 a0_8 a0_9 l0_10 l0_11) else ((impl_isPort.f a0_5).bind fun t313 => (if t313 = true then ((impl_isPort.f a0_6).bind fun t314 => (if t314 = true then (if a0_8 < 0 then (impl_okSegment.j0 k true a0_0 a0_1 a0_2 a0_3 a0_4 a0_5 a0_6 a0_7 a0_8 a0_9 l0_10 l0_11) else (if a0_8 > 14 then (impl_okSegment.j0 k true a0_0 a0_1 a0_2 a0_3 a0_4 a0_5 a0_6 a0_7 a0_8 a0_9 l0_10 l0_11) else (if a0_7 = true then (impl_okSegment.j0 k (decide ((l0_10.length : Int) > 3)) a0_0 a0_1 a0_2 a0_3 a0_4 a0_5 a0_6 a0_7 a0_8 a0_9 l0_10 l0_11) else (if a0_8 = 0 then (impl_okSegment.j0 k (decide ((l0_10.length : Int) > 3)) a0_0 a0_1 a0_2 a0_3 a0_4 a0_5 a0_6 a0_7 a0_8 a0_9 l0_10 l0_11) else (impl_okSegment.j0 k true a0_0 a0_1 a0_2 a0_3 a0_4 a0_5 a0_6 a0_7 a0_8 a0_9 l0_10 l0_11))))) else (impl_okSegment.j0 k true a0_0 a0_1 a0_2 a0_3 a0_4 a0_5 a0_6 a0_7 a0_8 a0_9 l0_10 l0_11))) else (impl_okSegment.j0 k true a0_0 a0_1 a0_2 a0_3 a0_4 a0_5 a0_6 a0_7 a0_8 a0_9 l0_10 l0_11))))) else (impl_okSegment.j0 k true a0_0 a0_1 a0_2 a0_3 a0_4 a0_5 a0_6 a0_7 a0_8 a0_9 l0_10 l0_11))) else (impl_okSegment.j0 k true a0_0 a0_1 a0_2 a0_3 a0_4 a0_5 a0_6 a0_7 a0_8 a0_9 l0_10 l0_11))) else (impl_okSegment.j0 k true a0_0 a0_1 a0_2 a0_3 a0_4 a0_5 a0_6 a0_7 a0_8 a0_9 l0_10 l0_11)) = some r := H
 have A6 := Aside0.mk A60
 clear A60
 by_cases c7 : t310 = true
 {
 subst c7
 have H1 : ((impl_isSeq.f a0_2).bind fun t311 => (if t311 = true then ((impl_isSeq.f a0_3).bind fun t312 => (if t312 = true then (if a0_4 < 0 then (impl_okSegment.j0 k true a0_0 a0_1 a0_2 a0_3 a0_4 a0_5 a0_6 a0_7 a0_8 a0_9 l0_10 l0_11) else (if a0_4 > 63 then (impl_okSegment.j0 k true a0_0 a0_1 a0_2 a0_3 a0_4 a0_5 a0_6 a0_7 a0_8 a0_9 l0_10 l0_11) else ((impl_isPort.f a0_5).bind fun t313 => (if t313 = true then ((impl_isPort.f a0_6).bind fun t314 => (if t314 = true then (if a0_8 < 0 then (impl_okSegment.j0 k true a0_0 a0_1 a0_2 a0_3 a0_4 a0_5 a0_6 a0_7 a0_8 a0_9 l0_10 l0_11) else (if a0_8 > 14 then (impl_okSegment.j0 k true a0_0 a0_1 a0_2 a0_3 a0_4 a0_5 a0_6 a0_7 a0_8 a0_9 l0_10 l0_11) else (if a0_7 = true then (impl_okSegment.j0 k (decide ((l0_10.length : Int) > 3)) a0_0 a0_1 a0_2 a0_3 a0_4 a0_5 a0_6 a0_7 a0_8 a0_9 l0_10 l0_11) else (if a0_8 = 0 then (impl_okSegment.j0 k (decide ((l0_10.length : Int) > 3)) a0_0 a0_1 a0_2 a0_3 a0_4 a0_5 a0_6 a0_7 a0_8 a0_9 l0_10 l0_11) else (impl_okSegment.j0 k true a0_0 a0_1 a0_2 a0_3 a0_4 a0_5 a0_6 a0_7 a0_8 a0_9 l0_10 l0_11))))) else (impl_okSegment.j0 k true a0_0 a0_1 a0_2 a0_3 a0_4 a0_5 a0_6 a0_7 a0_8 a0_9 l0_10 l0_11))) else (impl_okSegment.j0 k true a0_0 a0_1 a0_2 a0_3 a0_4 a0_5 a0_6 a0_7 a0_8 a0_9 l0_10 l0_11))))) else (impl_okSegment.j0 k true a0_0 a0_1 a0_2 a0_3 a0_4 a0_5 a0_6 a0_7 a0_8 a0_9 l0_10 l0_11))) else (impl_okSegment.j0 k true a0_0 a0_1 a0_2 a0_3 a0_4 a0_5 a0_6 a0_7 a0_8 a0_9 l0_10 l0_11))) = some r := by rw [if_pos rfl] at H; exact H
 clear H
 have H := H1
 clear H1
 replace H := Option.bind_eq_some_iff.mp H
 obtain ⟨t311, A80, H⟩ := H
 replace H : (if t311 = true then ((impl_isSeq.f a0_3).bind fun t312 => (if t312 = true then (if a0_4 < 0 then (impl_okSegment.j0 k true a0_0 a0_1 a0_2 a0_3 a0_4 a0_5 a0_6 a0_7 a0_8 a0_9 l0_10 l0_11) else (if a0_4 > 63 then (impl_okSegment.j0 k true a0_0 a0_1 a0_2 a0_3 a0_4 a0_5 a0_6 a0_7 a0_8 a0_9 l0_10 l0_11) else ((impl_isPort.f a0_5).bind fun t313 => (if t313 = true then ((impl_isPort.f a0_6).bind fun t314 => (if t314 = true then (if a0_8 < 0 then (impl_okSegment.j0 k true a0_0 a0_1 a0_2 a0_3 a0_4 a0_5 a0_6 a0_7 a0_8 a0_9 l0_10 l0_11) else (if a0_8 > 14 then (impl_okSegment.j0 k true a0_0 a0_1 a0_2 a0_3 a0_4 a0_5 a0_6 a0_7 a0_8 a0_9 l0_10 l0_11) else (if a0_7 = true then (impl_okSegment.j0 k (decide ((l0_10.length : Int) > 3)) a0_0 a0_1 a0_2 a0_3 a0_4 a0_5 a0_6 a0_7 a0_8 a0_9 l0_10 l0_11) else (if a0_8 = 0 then (impl_okSegment.j0 k (decide ((l0_10.length : Int) > 3)) a0_0 a0_1 a0_2 a0_3 a0_4 a0_5 a0_6 a0_7 a0_8 a0_9 l0_10 l0_11) else (impl_okSegment.j0 k true a0_0 a0_1 a0_2 a0_3 a0_4 a0_5 a0_6 a0_7 a0_8 a0_9 l0_10 l0_11))))) else (impl_okSegment.j0 k true a0_0 a0_1 a0_2 a0_3 a0_4 a0_5 a0_6 a0_7 a0_8 a0_9 l0_10 l0_11))) else (impl_okSegment.j0 k true a0_0 a0_1 a0_2 a0_3 a0_4 a0_5 a0_6 a0_7 a0_8 a0_9 l0_10 l0_11))))) else (impl_okSegment.j0 k true a0_0 a0_1 a0_2 a0_3 a0_4 a0_5 a0_6 a0_7 a0_8 a0_9 l0_10 l0_11))) else (impl_okSegment.j0 k true a0_0 a0_1 a0_2 a0_3 a0_4 a0_5 a0_6 a0_7 a0_8 a0_9 l0_10 l0_11)) = some r := H
 have A8 := Aside0.mk A80
 clear A80
 by_cases c9 : t311 = true
 {
 subst c9
 have H1 : ((impl_isSeq.f a0_3).bind fun t312 => (if t312 = true then (if a0_4 < 0 then (impl_okSegment.j0 k true a0_0 a0_1 a0_2 a0_3 a0_4 a0_5 a0_6 a0_7 a0_8 a0_9 l0_10 l0_11) else (if a0_4 > 63 then (impl_okSegment.j0 k true a0_0 a0_1 a0_2 a0_3 a0_4 a0_5 a0_6 a0_7 a0_8 a0_9 l0_10 l0_11) else ((impl_isPort.f a0_5).bind fun t313 => (if t313 = true then ((impl_isPort.f a0_6).bind fun t314 => (if t314 = true then (if a0_8 < 0 then (impl_okSegment.j0 k true a0_0 a0_1 a0_2 a0_3 a0_4 a0_5 a0_6 a0_7 a0_8 a0_9 l0_10 l0_11) else (if a0_8 > 14 then (impl_okSegment.j0 k true a0_0 a0_1 a0_2 a0_3 a0_4 a0_5 a0_6 a0_7 a0_8 a0_9 l0_10 l0_11) else (if a0_7 = true then (impl_okSegment.j0 k (decide ((l0_10.length : Int) > 3)) a0_0 a0_1 a0_2 a0_3 a0_4 a0_5 a0_6 a0_7 a0_8 a0_9 l0_10 l0_11) else (if a0_8 = 0 then (impl_okSegment.j0 k (decide ((l0_10.length : Int) > 3)) a0_0 a0_1 a0_2 a0_3 a0_4 a0_5 a0_6 a0_7 a0_8 a0_9 l0_10 l0_11) else (impl_okSegment.j0 k true a0_0 a0_1 a0_2 a0_3 a0_4 a0_5 a0_6 a0_7 a0_8 a0_9 l0_10 l0_11))))) else (impl_okSegment.j0 k true a0_0 a0_1 a0_2 a0_3 a0_4 a0_5 a0_6 a0_7 a0_8 a0_9 l0_10 l0_11))) else (impl_okSegment.j0 k true a0_0 a0_1 a0_2 a0_3 a0_4 a0_5 a0_6 a0_7 a0_8 a0_9 l0_10 l0_11))))) else (impl_okSegment.j0 k true a0_0 a0_1 a0_2 a0_3 a0_4 a0_5 a0_6 a0_7 a0_8 a0_9 l0_10 l0_11))) = some r := by rw [if_pos rfl] at H; exact H
 clear H
 have H := H1
 clear H1
 replace H := Option.bind_eq_some_iff.mp H
 obtain ⟨t312, A100, H⟩ := H
 replace H : (if t312 = true then (if a0_4 < 0 then (impl_okSegment.j0 k true a0_0 a0_1 a0_2 a0_3 a0_4 a0_5 a0_6 a0_7 a0_8 a0_9 l0_10 l0_11) else (if a0_4 > 63 then (impl_okSegment.j0 k true a0_0 a0_1 a0_2 a0_3 a0_4 a0_5 a0_6 a0_7 a0_8 a0_9 l0_10 l0_11) else ((impl_isPort.f a0_5).bind fun t313 => (if t313 = true then ((impl_isPort.f a0_6).bind fun t314 => (if t314 = true then (if a0_8 < 0 then (impl_okSegment.j0 k true a0_0 a0_1 a0_2 a0_3 a0_4 a0_5 a0_6 a0_7 a0_8 a0_9 l0_10 l0_11) else (if a0_8 > 14 then (impl_okSegment.j0 k true a0_0 a0_1 a0_2 a0_3 a0_4 a0_5 a0_6 a0_7 a0_8 a0_9 l0_10 l0_11) else (if a0_7 = true then (impl_okSegment.j0 k (decide ((l0_10.length : Int) > 3)) a0_0 a0_1 a0_2 a0_3 a0_4 a0_5 a0_6 a0_7 a0_8 a0_9 l0_10 l0_11) else (if a0_8 = 0 then (impl_okSegment.j0 k (decide ((l0_10.length : Int) > 3)) a0_0 a0_1 a0_2 a0_3 a0_4 a0_5 a0_6 a0_7 a0_8 a0_9 l0_10 l0_11) else (impl_okSegment.j0 k true a0_0 a0_1 a0_2 a0_3 a0_4 a0_5 a0_6 a0_7 a0_8 a0_9 l0_10 l0_11))))) else (impl_okSegment.j0 k true a0_0 a0_1 a0_2 a0_3 a0_4 a0_5 a0_6 a0_7 a0_8 a0_9 l0_10 l0_11))) else (impl_okSegment.j0 k true a0_0 a0_1 a0_2 a0_3 a0_4 a0_5 a0_6 a0_7 a0_8 a0_9 l0_10 l0_11))))) else (impl_okSegment.j0 k true a0_0 a0_1 a0_2 a0_3 a0_4 a0_5 a0_6 a0_7 a0_8 a0_9 l0_10 l0_11)) = some r := H
 have A10 := Aside0.mk A100
 clear A100
 by_cases c11 : t312 = true
 {
 subst c11
 have H1 : (if a0_4 < 0 then (impl_okSegment.j0 k true a0_0 a0_1 a0_2 a0_3 a0_4 a0_5 a0_6 a0_7 a0_8 a0_9 l0_10 l0_11) else (if a0_4 > 63 then (impl_okSegment.j0 k true a0_0 a0_1 a0_2 a0_3 a0_4 a0_5 a0_6 a0_7 a0_8 a0_9 l0_10 l0_11) else ((impl_isPort.f a0_5).bind fun t313 => (if t313 = true then ((impl_isPort.f a0_6).bind fun t314 => (if t314 = true then (if a0_8 < 0 then (impl_okSegment.j0 k true a0_0 a0_1 a0_2 a0_3 a0_4 a0_5 a0_6 a0_7 a0_8 a0_9 l0_10 l0_11) else (if a0_8 > 14 then (impl_okSegment.j0 k true a0_0 a0_1 a0_2 a0_3 a0_4 a0_5 a0_6 a0_7 a0_8 a0_9 l0_10 l0_11) else (if a0_7 = true then (impl_okSegment.j0 k (decide ((l0_10.length : Int) > 3)) a0_0 a0_1 a0_2 a0_3 a0_4 a0_5 a0_6 a0_7 a0_8 a0_9 l0_10 l0_11) else (if a0_8 = 0 then (impl_okSegment.j0 k (decide ((l0_10.length : Int) > 3)) a0_0 a0_1 a0_2 a0_3 a0_4 a0_5 a0_6 a0_7 a0_8 a0_9 l0_10 l0_11) else (impl_okSegment.j0 k true a0_0 a0_1 a0_2 a0_3 a0_4 a0_5 a0_6 a0_7 a0_8 a0_9 l0_10 l0_11))))) else (impl_okSegment.j0 k true a0_0 a0_1 a0_2 a0_3 a0_4 a0_5 a0_6 a0_7 a0_8 a0_9 l0_10 l0_11))) else (impl_okSegment.j0 k true a0_0 a0_1 a0_2 a0_3 a0_4 a0_5 a0_6 a0_7 a0_8 a0_9 l0_10 l0_11))))) = some r := by rw [if_pos rfl] at H; exact H
 clear H
 have H := H1
 clear H1
 by_cases c12 : a0_4 < 0
 {
 rw [if_pos c12] at H
 have c12b0 : decide (a0_4 < 0) = true := decide_eq_true c12
 clear c12
 (first | rw [c12b0] | (simp only [i64_w, i32_w]; rw [c12b0]) | skip)
 have H' := Aside0.mk H
 clear H
 obtain ⟨⟨hcz13_0, hcz13_1, hcz13_2, hcz13_3, hcz13_4, hcz13_5, hcz13_6, hcz13_7, hcz13_8, hcz13_9, hcz13_10, hcz13_11⟩, hfz13_0, hfz13_1, hfz13_2, hfz13_3, hfz13_4, hfz13_5, hfz13_6, hfz13_7, hfz13_8, hfz13_9, hfz13_10, hfz13_11⟩ := cells12 BK308.out
 go_wp2_with (first | (go_at_call 152; (with_reducible refine (impl_isPort.calls a0_0 true _ A4.out).mono ?_); rintro e w' ⟨rfl, ⟨nd, rfl⟩⟩) | (go_at_call 152; (with_reducible refine (impl_isPort.calls a0_1 true _ A6.out).mono ?_); rintro e w' ⟨rfl, ⟨nd, rfl⟩⟩) | (go_at_call 153; (with_reducible refine (impl_isSeq.calls a0_2 true _ A8.out).mono ?_); rintro e w' ⟨rfl, ⟨nd, rfl⟩⟩) | (go_at_call 153; (with_reducible refine (impl_isSeq.calls a0_3 true _ A10.out).mono ?_); rintro e w' ⟨rfl, ⟨nd, rfl⟩⟩))
 all_goals (try (rename_i h_; exfalso; cases h_; done))
 all_goals (try (rename_i h_ h2_; exfalso; cases h_; done))
 go_meet
 case rel => exact ⟨_, (true), (by first | rfl | (simp; done) | (simp [*]; done)), H', ⟨by first | omega | exact Nat.le_refl _⟩, ⟨Bh BK308⟩, ⟨wB⟩⟩
 }
 {
 rw [if_neg c12] at H
 have c12b0 : decide (a0_4 < 0) = false := decide_eq_false c12
 clear c12
 (first | rw [c12b0] | (simp only [i64_w, i32_w]; rw [c12b0]) | skip)
 by_cases c14 : a0_4 > 63
 {
 rw [if_pos c14] at H
 have c14b0 : decide (63 < a0_4) = true := decide_eq_true c14
 clear c14
 have H' := Aside0.mk H
 clear H
 obtain ⟨⟨hcz15_0, hcz15_1, hcz15_2, hcz15_3, hcz15_4, hcz15_5, hcz15_6, hcz15_7, hcz15_8, hcz15_9, hcz15_10, hcz15_11⟩, hfz15_0, hfz15_1, hfz15_2, hfz15_3, hfz15_4, hfz15_5, hfz15_6, hfz15_7, hfz15_8, hfz15_9, hfz15_10, hfz15_11⟩ := cells12 BK308.out
 go_wp2_with (first | (go_at_call 152; (with_reducible refine (impl_isPort.calls a0_0 true _ A4.out).mono ?_); rintro e w' ⟨rfl, ⟨nd, rfl⟩⟩) | (go_at_call 152; (with_reducible refine (impl_isPort.calls a0_1 true _ A6.out).mono ?_); rintro e w' ⟨rfl, ⟨nd, rfl⟩⟩) | (go_at_call 153; (with_reducible refine (impl_isSeq.calls a0_2 true _ A8.out).mono ?_); rintro e w' ⟨rfl, ⟨nd, rfl⟩⟩) | (go_at_call 153; (with_reducible refine (impl_isSeq.calls a0_3 true _ A10.out).mono ?_); rintro e w' ⟨rfl, ⟨nd, rfl⟩⟩))
 all_goals (try (rename_i h_; exfalso; cases h_; done))
 all_goals (try (rename_i h_ h2_; exfalso; cases h_; done))
 go_meet
 case rel => exact ⟨_, (true), (by first | rfl | (simp; done) | (simp [*]; done)), H', ⟨by first | omega | exact Nat.le_refl _⟩, ⟨Bh BK308⟩, ⟨wB⟩⟩
 }
 {
 rw [if_neg c14] at H
 have c14b0 : decide (63 < a0_4) = false := decide_eq_false c14
 clear c14
 replace H := Option.bind_eq_some_iff.mp H
 obtain ⟨t313, A160, H⟩ := H
 replace H : (if t313 = true then ((impl_isPort.f a0_6).bind fun t314 => (if t314 = true then (if a0_8 < 0 then (impl_okSegment.j0 k true a0_0 a0_1 a0_2 a0_3 a0_4 a0_5 a0_6 a0_7 a0_8 a0_9 l0_10 l0_11) else (if a0_8 > 14 then (impl_okSegment.j0 k true a0_0 a0_1 a0_2 a0_3 a0_4 a0_5 a0_6 a0_7 a0_8 a0_9 l0_10 l0_11) else (if a0_7 = true then (impl_okSegment.j0 k (decide ((l0_10.length : Int) > 3)) a0_0 a0_1 a0_2 a0_3 a0_4 a0_5 a0_6 a0_7 a0_8 a0_9 l0_10 l0_11) else (if a0_8 = 0 then (impl_okSegment.j0 k (decide ((l0_10.length : Int) > 3)) a0_0 a0_1 a0_2 a0_3 a0_4 a0_5 a0_6 a0_7 a0_8 a0_9 l0_10 l0_11) else (impl_okSegment.j0 k true a0_0 a0_1 a0_2 a0_3 a0_4 a0_5 a0_6 a0_7 a0_8 a0_9 l0_10 l0_11))))) else (impl_okSegment.j0 k true a0_0 a0_1 a0_2 a0_3 a0_4 a0_5 a0_6 a0_7 a0_8 a0_9 l0_10 l0_11))) else (impl_okSegment.j0 k true a0_0 a0_1 a0_2 a0_3 a0_4 a0_5 a0_6 a0_7 a0_8 a0_9 l0_10 l0_11)) = some r := H
 have A16 := Aside0.mk A160
 clear A160
 by_cases c17 : t313 = true
 {
 subst c17
 have H1 : ((impl_isPort.f a0_6).bind fun t314 => (if t314 = true then (if a0_8 < 0 then (impl_okSegment.j0 k true a0_0 a0_1 a0_2 a0_3 a0_4 a0_5 a0_6 a0_7 a0_8 a0_9 l0_10 l0_11) else (if a0_8 > 14 then (impl_okSegment.j0 k true a0_0 a0_1 a0_2 a0_3 a0_4 a0_5 a0_6 a0_7 a0_8 a0_9 l0_10 l0_11) else (if a0_7 = true then (impl_okSegment.j0 k (decide ((l0_10.length : Int) > 3)) a0_0 a0_1 a0_2 a0_3 a0_4 a0_5 a0_6 a0_7 a0_8 a0_9 l0_10 l0_11) else (if a0_8 = 0 then (impl_okSegment.j0 k (decide ((l0_10.length : Int) > 3)) a0_0 a0_1 a0_2 a0_3 a0_4 a0_5 a0_6 a0_7 a0_8 a0_9 l0_10 l0_11) else (impl_okSegment.j0 k true a0_0 a0_1 a0_2 a0_3 a0_4 a0_5 a0_6 a0_7 a0_8 a0_9 l0_10 l0_11))))) else (impl_okSegment.j0 k true a0_0 a0_1 a0_2 a0_3 a0_4 a0_5 a0_6 a0_7 a0_8 a0_9 l0_10 l0_11))) = some r := by rw [if_pos rfl] at H; exact H
 clear H
 have H := H1
 clear H1
 replace H := Option.bind_eq_some_iff.mp H
 obtain ⟨t314, A180, H⟩ := H
 replace H : (if t314 = true then (if a0_8 < 0 then (impl_okSegment.j0 k true a0_0 a0_1 a0_2 a0_3 a0_4 a0_5 a0_6 a0_7 a0_8 a0_9 l0_10 l0_11) else (if a0_8 > 14 then (impl_okSegment.j0 k true a0_0 a0_1 a0_2 a0_3 a0_4 a0_5 a0_6 a0_7 a0_8 a0_9 l0_10 l0_11) else (if a0_7 = true then (impl_okSegment.j0 k (decide ((l0_10.length : Int) > 3)) a0_0 a0_1 a0_2 a0_3 a0_4 a0_5 a0_6 a0_7 a0_8 a0_9 l0_10 l0_11) else (if a0_8 = 0 then (impl_okSegment.j0 k (decide ((l0_10.length : Int) > 3)) a0_0 a0_1 a0_2 a0_3 a0_4 a0_5 a0_6 a0_7 a0_8 a0_9 l0_10 l0_11) else (impl_okSegment.j0 k true a0_0 a0_1 a0_2 a0_3 a0_4 a0_5 a0_6 a0_7 a0_8 a0_9 l0_10 l0_11))))) else (impl_okSegment.j0 k true a0_0 a0_1 a0_2 a0_3 a0_4 a0_5 a0_6 a0_7 a0_8 a0_9 l0_10 l0_11)) = some r := H
 have A18 := Aside0.mk A180
 clear A180
 by_cases c19 : t314 = true
 {
 subst c19
 have H1 : (if a0_8 < 0 then (impl_okSegment.j0 k true a0_0 a0_1 a0_2 a0_3 a0_4 a0_5 a0_6 a0_7 a0_8 a0_9 l0_10 l0_11) else (if a0_8 > 14 then (impl_okSegment.j0 k true a0_0 a0_1 a0_2 a0_3 a0_4 a0_5 a0_6 a0_7 a0_8 a0_9 l0_10 l0_11) else (if a0_7 = true then (impl_okSegment.j0 k (decide ((l0_10.length : Int) > 3)) a0_0 a0_1 a0_2 a0_3 a0_4 a0_5 a0_6 a0_7 a0_8 a0_9 l0_10 l0_11) else (if a0_8 = 0 then (impl_okSegment.j0 k (decide ((l0_10.length : Int) > 3)) a0_0 a0_1 a0_2 a0_3 a0_4 a0_5 a0_6 a0_7 a0_8 a0_9 l0_10 l0_11) else (impl_okSegment.j0 k true a0_0 a0_1 a0_2 a0_3 a0_4 a0_5 a0_6 a0_7 a0_8 a0_9 l0_10 l0_11))))) = some r := by rw [if_pos rfl] at H; exact H
 clear H
 have H := H1
 clear H1
 by_cases c20 : a0_8 < 0
 {
 rw [if_pos c20] at H
 have c20b0 : decide (a0_8 < 0) = true := decide_eq_true c20
 clear c20
 have H' := Aside0.mk H
 clear H
 obtain ⟨⟨hcz21_0, hcz21_1, hcz21_2, hcz21_3, hcz21_4, hcz21_5, hcz21_6, hcz21_7, hcz21_8, hcz21_9, hcz21_10, hcz21_11⟩, hfz21_0, hfz21_1, hfz21_2, hfz21_3, hfz21_4, hfz21_5, hfz21_6, hfz21_7, hfz21_8, hfz21_9, hfz21_10, hfz21_11⟩ := cells12 BK308.out
 go_wp2_with (first | (go_at_call 152; (with_reducible refine (impl_isPort.calls a0_0 true _ A4.out).mono ?_); rintro e w' ⟨rfl, ⟨nd, rfl⟩⟩) | (go_at_call 152; (with_reducible refine (impl_isPort.calls a0_1 true _ A6.out).mono ?_); rintro e w' ⟨rfl, ⟨nd, rfl⟩⟩) | (go_at_call 153; (with_reducible refine (impl_isSeq.calls a0_2 true _ A8.out).mono ?_); rintro e w' ⟨rfl, ⟨nd, rfl⟩⟩) | (go_at_call 153; (with_reducible refine (impl_isSeq.calls a0_3 true _ A10.out).mono ?_); rintro e w' ⟨rfl, ⟨nd, rfl⟩⟩) | (go_at_call 152; (with_reducible refine (impl_isPort.calls a0_5 true _ A16.out).mono ?_); rintro e w' ⟨rfl, ⟨nd, rfl⟩⟩) | (go_at_call 152; (with_reducible refine (impl_isPort.calls a0_6 true _ A18.out).mono ?_); rintro e w' ⟨rfl, ⟨nd, rfl⟩⟩))
 all_goals (try (rename_i h_; exfalso; cases h_; done))
 all_goals (try (rename_i h_ h2_; exfalso; cases h_; done))
 go_meet
 case rel => exact ⟨_, (true), (by first | rfl | (simp; done) | (simp [*]; done)), H', ⟨by first | omega | exact Nat.le_refl _⟩, ⟨Bh BK308⟩, ⟨wB⟩⟩
 }
 {
 rw [if_neg c20] at H
 have c20b0 : decide (a0_8 < 0) = false := decide_eq_false c20
 clear c20
 by_cases c22 : a0_8 > 14
 {
 rw [if_pos c22] at H
 have c22b0 : decide (14 < a0_8) = true := decide_eq_true c22
 clear c22
 have H' := Aside0.mk H
 clear H
 obtain ⟨⟨hcz23_0, hcz23_1, hcz23_2, hcz23_3, hcz23_4, hcz23_5, hcz23_6, hcz23_7, hcz23_8, hcz23_9, hcz23_10, hcz23_11⟩, hfz23_0, hfz23_1, hfz23_2, hfz23_3, hfz23_4, hfz23_5, hfz23_6, hfz23_7, hfz23_8, hfz23_9, hfz23_10, hfz23_11⟩ := cells12 BK308.out
 go_wp2_with (first | (go_at_call 152; (with_reducible refine (impl_isPort.calls a0_0 true _ A4.out).mono ?_); rintro e w' ⟨rfl, ⟨nd, rfl⟩⟩) | (go_at_call 152; (with_reducible refine (impl_isPort.calls a0_1 true _ A6.out).mono ?_); rintro e w' ⟨rfl, ⟨nd, rfl⟩⟩) | (go_at_call 153; (with_reducible refine (impl_isSeq.calls a0_2 true _ A8.out).mono ?_); rintro e w' ⟨rfl, ⟨nd, rfl⟩⟩) | (go_at_call 153; (with_reducible refine (impl_isSeq.calls a0_3 true _ A10.out).mono ?_); rintro e w' ⟨rfl, ⟨nd, rfl⟩⟩) | (go_at_call 152; (with_reducible refine (impl_isPort.calls a0_5 true _ A16.out).mono ?_); rintro e w' ⟨rfl, ⟨nd, rfl⟩⟩) | (go_at_call 152; (with_reducible refine (impl_isPort.calls a0_6 true _ A18.out).mono ?_); rintro e w' ⟨rfl, ⟨nd, rfl⟩⟩))
 all_goals (try (rename_i h_; exfalso; cases h_; done))
 all_goals (try (rename_i h_ h2_; exfalso; cases h_; done))
 go_meet
 case rel => exact ⟨_, (true), (by first | rfl | (simp; done) | (simp [*]; done)), H', ⟨by first | omega | exact Nat.le_refl _⟩, ⟨Bh BK308⟩, ⟨wB⟩⟩
 }
 {
 rw [if_neg c22] at H
 have c22b0 : decide (14 < a0_8) = false := decide_eq_false c22
 clear c22
 by_cases c24 : a0_7 = true
 {
 subst c24
 have H1 : (impl_okSegment.j0 k (decide ((l0_10.length : Int) > 3)) a0_0 a0_1 a0_2 a0_3 a0_4 a0_5 a0_6 true a0_8 a0_9 l0_10 l0_11) = some r := by rw [if_pos rfl] at H; exact H
 clear H
 have H := H1
 clear H1
 have H' := Aside0.mk H
 clear H
 obtain ⟨⟨hcz25_0, hcz25_1, hcz25_2, hcz25_3, hcz25_4, hcz25_5, hcz25_6, hcz25_7, hcz25_8, hcz25_9, hcz25_10, hcz25_11⟩, hfz25_0, hfz25_1, hfz25_2, hfz25_3, hfz25_4, hfz25_5, hfz25_6, hfz25_7, hfz25_8, hfz25_9, hfz25_10, hfz25_11⟩ := cells12 BK308.out
 go_wp2_with (first | (go_at_call 152; (with_reducible refine (impl_isPort.calls a0_0 true _ A4.out).mono ?_); rintro e w' ⟨rfl, ⟨nd, rfl⟩⟩) | (go_at_call 152; (with_reducible refine (impl_isPort.calls a0_1 true _ A6.out).mono ?_); rintro e w' ⟨rfl, ⟨nd, rfl⟩⟩) | (go_at_call 153; (with_reducible refine (impl_isSeq.calls a0_2 true _ A8.out).mono ?_); rintro e w' ⟨rfl, ⟨nd, rfl⟩⟩) | (go_at_call 153; (with_reducible refine (impl_isSeq.calls a0_3 true _ A10.out).mono ?_); rintro e w' ⟨rfl, ⟨nd, rfl⟩⟩) | (go_at_call 152; (with_reducible refine (impl_isPort.calls a0_5 true _ A16.out).mono ?_); rintro e w' ⟨rfl, ⟨nd, rfl⟩⟩) | (go_at_call 152; (with_reducible refine (impl_isPort.calls a0_6 true _ A18.out).mono ?_); rintro e w' ⟨rfl, ⟨nd, rfl⟩⟩))
 all_goals (try (rename_i h_; exfalso; cases h_; done))
 all_goals (try (rename_i h_ h2_; exfalso; cases h_; done))
 go_meet
 case rel => exact ⟨_, (decide ((l0_10.length : Int) > 3)), (by first | rfl | (simp; done) | (simp [*]; done)), H', ⟨by first | omega | exact Nat.le_refl _⟩, ⟨Bh BK308⟩, ⟨wB⟩⟩
 }
 {
 replace c24 := Bool.eq_false_iff.mpr c24
 subst c24
 have H1 : (if a0_8 = 0 then (impl_okSegment.j0 k (decide ((l0_10.length : Int) > 3)) a0_0 a0_1 a0_2 a0_3 a0_4 a0_5 a0_6 false a0_8 a0_9 l0_10 l0_11) else (impl_okSegment.j0 k true a0_0 a0_1 a0_2 a0_3 a0_4 a0_5 a0_6 false a0_8 a0_9 l0_10 l0_11)) = some r := by rw [if_neg (show ¬ (false = true) by decide)] at H; exact H
 clear H
 have H := H1
 clear H1
 by_cases c26 : a0_8 = 0
 {
 rw [if_pos c26] at H
 have c26b0 : (a0_8 == 0) = true := beq_iff_eq.mpr c26
 have c26b1 : (a0_8 != 0) = false := bne_eq_false_iff_eq.mpr c26
 clear c26
 have H' := Aside0.mk H
 clear H
 obtain ⟨⟨hcz27_0, hcz27_1, hcz27_2, hcz27_3, hcz27_4, hcz27_5, hcz27_6, hcz27_7, hcz27_8, hcz27_9, hcz27_10, hcz27_11⟩, hfz27_0, hfz27_1, hfz27_2, hfz27_3, hfz27_4, hfz27_5, hfz27_6, hfz27_7, hfz27_8, hfz27_9, hfz27_10, hfz27_11⟩ := cells12 BK308.out
 go_wp2_with (first | (go_at_call 152; (with_reducible refine (impl_isPort.calls a0_0 true _ A4.out).mono ?_); rintro e w' ⟨rfl, ⟨nd, rfl⟩⟩) | (go_at_call 152; (with_reducible refine (impl_isPort.calls a0_1 true _ A6.out).mono ?_); rintro e w' ⟨rfl, ⟨nd, rfl⟩⟩) | (go_at_call 153; (with_reducible refine (impl_isSeq.calls a0_2 true _ A8.out).mono ?_); rintro e w' ⟨rfl, ⟨nd, rfl⟩⟩) | (go_at_call 153; (with_reducible refine (impl_isSeq.calls a0_3 true _ A10.out).mono ?_); rintro e w' ⟨rfl, ⟨nd, rfl⟩⟩) | (go_at_call 152; (with_reducible refine (impl_isPort.calls a0_5 true _ A16.out).mono ?_); rintro e w' ⟨rfl, ⟨nd, rfl⟩⟩) | (go_at_call 152; (with_reducible refine (impl_isPort.calls a0_6 true _ A18.out).mono ?_); rintro e w' ⟨rfl, ⟨nd, rfl⟩⟩))
 all_goals (try (rename_i h_; exfalso; cases h_; done))
 all_goals (try (rename_i h_ h2_; exfalso; cases h_; done))
 go_meet
 case rel => exact ⟨_, (decide ((l0_10.length : Int) > 3)), (by first | rfl | (simp; done) | (simp [*]; done)), H', ⟨by first | omega | exact Nat.le_refl _⟩, ⟨Bh BK308⟩, ⟨wB⟩⟩
 }
 {
 rw [if_neg c26] at H
 have c26b0 : (a0_8 == 0) = false := beq_eq_false_iff_ne.mpr c26
 have c26b1 : (a0_8 != 0) = true := bne_iff_ne.mpr c26
 have H' := Aside0.mk H
 clear H
 obtain ⟨⟨hcz28_0, hcz28_1, hcz28_2, hcz28_3, hcz28_4, hcz28_5, hcz28_6, hcz28_7, hcz28_8, hcz28_9, hcz28_10, hcz28_11⟩, hfz28_0, hfz28_1, hfz28_2, hfz28_3, hfz28_4, hfz28_5, hfz28_6, hfz28_7, hfz28_8, hfz28_9, hfz28_10, hfz28_11⟩ := cells12 BK308.out
 go_wp2_with (first | (go_at_call 152; (with_reducible refine (impl_isPort.calls a0_0 true _ A4.out).mono ?_); rintro e w' ⟨rfl, ⟨nd, rfl⟩⟩) | (go_at_call 152; (with_reducible refine (impl_isPort.calls a0_1 true _ A6.out).mono ?_); rintro e w' ⟨rfl, ⟨nd, rfl⟩⟩) | (go_at_call 153; (with_reducible refine (impl_isSeq.calls a0_2 true _ A8.out).mono ?_); rintro e w' ⟨rfl, ⟨nd, rfl⟩⟩) | (go_at_call 153; (with_reducible refine (impl_isSeq.calls a0_3 true _ A10.out).mono ?_); rintro e w' ⟨rfl, ⟨nd, rfl⟩⟩) | (go_at_call 152; (with_reducible refine (impl_isPort.calls a0_5 true _ A16.out).mono ?_); rintro e w' ⟨rfl, ⟨nd, rfl⟩⟩) | (go_at_call 152; (with_reducible refine (impl_isPort.calls a0_6 true _ A18.out).mono ?_); rintro e w' ⟨rfl, ⟨nd, rfl⟩⟩))
 all_goals (try (rename_i h_; exfalso; cases h_; done))
 all_goals (try (rename_i h_ h2_; exfalso; cases h_; done))
 go_meet
 case rel => exact ⟨_, (true), (by first | rfl | (simp; done) | (simp [*]; done)), H', ⟨by first | omega | exact Nat.le_refl _⟩, ⟨Bh BK308⟩, ⟨wB⟩⟩
 }
 }
 }
 }
 }
 {
 replace c19 := Bool.eq_false_iff.mpr c19
 subst c19
 have H1 : (impl_okSegment.j0 k true a0_0 a0_1 a0_2 a0_3 a0_4 a0_5 a0_6 a0_7 a0_8 a0_9 l0_10 l0_11) = some r := by rw [if_neg (show ¬ (false = true) by decide)] at H; exact H
 clear H
 have H := H1
 clear H1
 have H' := Aside0.mk H
 clear H
 obtain ⟨⟨hcz29_0, hcz29_1, hcz29_2, hcz29_3, hcz29_4, hcz29_5, hcz29_6, hcz29_7, hcz29_8, hcz29_9, hcz29_10, hcz29_11⟩, hfz29_0, hfz29_1, hfz29_2, hfz29_3, hfz29_4, hfz29_5, hfz29_6, hfz29_7, hfz29_8, hfz29_9, hfz29_10, hfz29_11⟩ := cells12 BK308.out
 go_wp2_with (first | (go_at_call 152; (with_reducible refine (impl_isPort.calls a0_0 true _ A4.out).mono ?_); rintro e w' ⟨rfl, ⟨nd, rfl⟩⟩) | (go_at_call 152; (with_reducible refine (impl_isPort.calls a0_1 true _ A6.out).mono ?_); rintro e w' ⟨rfl, ⟨nd, rfl⟩⟩) | (go_at_call 153; (with_reducible refine (impl_isSeq.calls a0_2 true _ A8.out).mono ?_); rintro e w' ⟨rfl, ⟨nd, rfl⟩⟩) | (go_at_call 153; (with_reducible refine (impl_isSeq.calls a0_3 true _ A10.out).mono ?_); rintro e w' ⟨rfl, ⟨nd, rfl⟩⟩) | (go_at_call 152; (with_reducible refine (impl_isPort.calls a0_5 true _ A16.out).mono ?_); rintro e w' ⟨rfl, ⟨nd, rfl⟩⟩) | (go_at_call 152; (with_reducible refine (impl_isPort.calls a0_6 false _ A18.out).mono ?_); rintro e w' ⟨rfl, ⟨nd, rfl⟩⟩))
 all_goals (try (rename_i h_; exfalso; cases h_; done))
 all_goals (try (rename_i h_ h2_; exfalso; cases h_; done))
 go_meet
 case rel => exact ⟨_, (true), (by first | rfl | (simp; done) | (simp [*]; done)), H', ⟨by first | omega | exact Nat.le_refl _⟩, ⟨Bh BK308⟩, ⟨wB⟩⟩
 }
 }
 {
 replace c17 := Bool.eq_false_iff.mpr c17
 subst c17
 have H1 : (impl_okSegment.j0 k true a0_0 a0_1 a0_2 a0_3 a0_4 a0_5 a0_6 a0_7 a0_8 a0_9 l0_10 l0_11) = some r := by rw [if_neg (show ¬ (false = true) by decide)] at H; exact H
 clear H
 have H := H1
 clear H1
 have H' := Aside0.mk H
 clear H
 obtain ⟨⟨hcz30_0, hcz30_1, hcz30_2, hcz30_3, hcz30_4, hcz30_5, hcz30_6, hcz30_7, hcz30_8, hcz30_9, hcz30_10, hcz30_11⟩, hfz30_0, hfz30_1, hfz30_2, hfz30_3, hfz30_4, hfz30_5, hfz30_6, hfz30_7, hfz30_8, hfz30_9, hfz30_10, hfz30_11⟩ := cells12 BK308.out
 go_wp2_with (first | (go_at_call 152; (with_reducible refine (impl_isPort.calls a0_0 true _ A4.out).mono ?_); rintro e w' ⟨rfl, ⟨nd, rfl⟩⟩) | (go_at_call 152; (with_reducible refine (impl_isPort.calls a0_1 true _ A6.out).mono ?_); rintro e w' ⟨rfl, ⟨nd, rfl⟩⟩) | (go_at_call 153; (with_reducible refine (impl_isSeq.calls a0_2 true _ A8.out).mono ?_); rintro e w' ⟨rfl, ⟨nd, rfl⟩⟩) | (go_at_call 153; (with_reducible refine (impl_isSeq.calls a0_3 true _ A10.out).mono ?_); rintro e w' ⟨rfl, ⟨nd, rfl⟩⟩) | (go_at_call 152; (with_reducible refine (impl_isPort.calls a0_5 false _ A16.out).mono ?_); rintro e w' ⟨rfl, ⟨nd, rfl⟩⟩))
 all_goals (try (rename_i h_; exfalso; cases h_; done))
 all_goals (try (rename_i h_ h2_; exfalso; cases h_; done))
 go_meet
 case rel => exact ⟨_, (true), (by first | rfl | (simp; done) | (simp [*]; done)), H', ⟨by first | omega | exact Nat.le_refl _⟩, ⟨Bh BK308⟩, ⟨wB⟩⟩
 }
 }
 }
 }
 {
 replace c11 := Bool.eq_false_iff.mpr c11
 subst c11
 have H1 : (impl_okSegment.j0 k true a0_0 a0_1 a0_2 a0_3 a0_4 a0_5 a0_6 a0_7 a0_8 a0_9 l0_10 l0_11) = some r := by rw [if_neg (show ¬ (false = true) by decide)] at H; exact H
 clear H
 have H := H1
 clear H1
 have H' := Aside0.mk H
 clear H
 obtain ⟨⟨hcz31_0, hcz31_1, hcz31_2, hcz31_3, hcz31_4, hcz31_5, hcz31_6, hcz31_7, hcz31_8, hcz31_9, hcz31_10, hcz31_11⟩, hfz31_0, hfz31_1, hfz31_2, hfz31_3, hfz31_4, hfz31_5, hfz31_6, hfz31_7, hfz31_8, hfz31_9, hfz31_10, hfz31_11⟩ := cells12 BK308.out
 go_wp2_with (first | (go_at_call 152; (with_reducible refine (impl_isPort.calls a0_0 true _ A4.out).mono ?_); rintro e w' ⟨rfl, ⟨nd, rfl⟩⟩) | (go_at_call 152; (with_reducible refine (impl_isPort.calls a0_1 true _ A6.out).mono ?_); rintro e w' ⟨rfl, ⟨nd, rfl⟩⟩) | (go_at_call 153; (with_reducible refine (impl_isSeq.calls a0_2 true _ A8.out).mono ?_); rintro e w' ⟨rfl, ⟨nd, rfl⟩⟩) | (go_at_call 153; (with_reducible refine (impl_isSeq.calls a0_3 false _ A10.out).mono ?_); rintro e w' ⟨rfl, ⟨nd, rfl⟩⟩))
 all_goals (try (rename_i h_; exfalso; cases h_; done))
 all_goals (try (rename_i h_ h2_; exfalso; cases h_; done))
 go_meet
 case rel => exact ⟨_, (true), (by first | rfl | (simp; done) | (simp [*]; done)), H', ⟨by first | omega | exact Nat.le_refl _⟩, ⟨Bh BK308⟩, ⟨wB⟩⟩
 }
 }
 {
 replace c9 := Bool.eq_false_iff.mpr c9
 subst c9
 have H1 : (impl_okSegment.j0 k true a0_0 a0_1 a0_2 a0_3 a0_4 a0_5 a0_6 a0_7 a0_8 a0_9 l0_10 l0_11) = some r := by rw [if_neg (show ¬ (false = true) by decide)] at H; exact H
 clear H
 have H := H1
 clear H1
 have H' := Aside0.mk H
 clear H
 obtain ⟨⟨hcz32_0, hcz32_1, hcz32_2, hcz32_3, hcz32_4, hcz32_5, hcz32_6, hcz32_7, hcz32_8, hcz32_9, hcz32_10, hcz32_11⟩, hfz32_0, hfz32_1, hfz32_2, hfz32_3, hfz32_4, hfz32_5, hfz32_6, hfz32_7, hfz32_8, hfz32_9, hfz32_10, hfz32_11⟩ := cells12 BK308.out
 go_wp2_with (first | (go_at_call 152; (with_reducible refine (impl_isPort.calls a0_0 true _ A4.out).mono ?_); rintro e w' ⟨rfl, ⟨nd, rfl⟩⟩) | (go_at_call 152; (with_reducible refine (impl_isPort.calls a0_1 true _ A6.out).mono ?_); rintro e w' ⟨rfl, ⟨nd, rfl⟩⟩) | (go_at_call 153; (with_reducible refine (impl_isSeq.calls a0_2 false _ A8.out).mono ?_); rintro e w' ⟨rfl, ⟨nd, rfl⟩⟩))
 all_goals (try (rename_i h_; exfalso; cases h_; done))
 all_goals (try (rename_i h_ h2_; exfalso; cases h_; done))
 go_meet
 case rel => exact ⟨_, (true), (by first | rfl | (simp; done) | (simp [*]; done)), H', ⟨by first | omega | exact Nat.le_refl _⟩, ⟨Bh BK308⟩, ⟨wB⟩⟩
 }
 }
 {
 replace c7 := Bool.eq_false_iff.mpr c7
 subst c7
 have H1 : (impl_okSegment.j0 k true a0_0 a0_1 a0_2 a0_3 a0_4 a0_5 a0_6 a0_7 a0_8 a0_9 l0_10 l0_11) = some r := by rw [if_neg (show ¬ (false = true) by decide)] at H; exact H
 clear H
 have H := H1
 clear H1
 have H' := Aside0.mk H
 clear H
 obtain ⟨⟨hcz33_0, hcz33_1, hcz33_2, hcz33_3, hcz33_4, hcz33_5, hcz33_6, hcz33_7, hcz33_8, hcz33_9, hcz33_10, hcz33_11⟩, hfz33_0, hfz33_1, hfz33_2, hfz33_3, hfz33_4, hfz33_5, hfz33_6, hfz33_7, hfz33_8, hfz33_9, hfz33_10, hfz33_11⟩ := cells12 BK308.out
 go_wp2_with (first | (go_at_call 152; (with_reducible refine (impl_isPort.calls a0_0 true _ A4.out).mono ?_); rintro e w' ⟨rfl, ⟨nd, rfl⟩⟩) | (go_at_call 152; (with_reducible refine (impl_isPort.calls a0_1 false _ A6.out).mono ?_); rintro e w' ⟨rfl, ⟨nd, rfl⟩⟩))
 all_goals (try (rename_i h_; exfalso; cases h_; done))
 all_goals (try (rename_i h_ h2_; exfalso; cases h_; done))
 go_meet
 case rel => exact ⟨_, (true), (by first | rfl | (simp; done) | (simp [*]; done)), H', ⟨by first | omega | exact Nat.le_refl _⟩, ⟨Bh BK308⟩, ⟨wB⟩⟩
 }
 }
 {
 replace c5 := Bool.eq_false_iff.mpr c5
 subst c5
 have H1 : (impl_okSegment.j0 k true a0_0 a0_1 a0_2 a0_3 a0_4 a0_5 a0_6 a0_7 a0_8 a0_9 l0_10 l0_11) = some r := by rw [if_neg (show ¬ (false = true) by decide)] at H; exact H
 clear H
 have H := H1
 clear H1
 have H' := Aside0.mk H
 clear H
 obtain ⟨⟨hcz34_0, hcz34_1, hcz34_2, hcz34_3, hcz34_4, hcz34_5, hcz34_6, hcz34_7, hcz34_8, hcz34_9, hcz34_10, hcz34_11⟩, hfz34_0, hfz34_1, hfz34_2, hfz34_3, hfz34_4, hfz34_5, hfz34_6, hfz34_7, hfz34_8, hfz34_9, hfz34_10, hfz34_11⟩ := cells12 BK308.out
 go_wp2_with (first | (go_at_call 152; (with_reducible refine (impl_isPort.calls a0_0 false _ A4.out).mono ?_); rintro e w' ⟨rfl, ⟨nd, rfl⟩⟩))
 all_goals (try (rename_i h_; exfalso; cases h_; done))
 all_goals (try (rename_i h_ h2_; exfalso; cases h_; done))
 go_meet
 case rel => exact ⟨_, (true), (by first | rfl | (simp; done) | (simp [*]; done)), H', ⟨by first | omega | exact Nat.le_refl _⟩, ⟨Bh BK308⟩, ⟨wB⟩⟩
 }
 )
 case rest => (
 clear HC2
 try clear c1
 try clear c2
 try clear p2
 try clear c5
 try clear c7
 try clear c9
 try clear c11
 try clear c12
 try clear c12b0
 try clear c14
 try clear c14b0
 try clear c17
 try clear c19
 try clear c20
 try clear c20b0
 try clear c22
 try clear c22b0
 try clear c24
 try clear c26
 try clear c26b0
 try clear c26b1
 try clear hcz13_0 hcz13_1 hcz13_10 hcz13_11 hcz13_2 hcz13_3 hcz13_4 hcz13_5 hcz13_6 hcz13_7 hcz13_8 hcz13_9 hfz13_0 hfz13_1 hfz13_10 hfz13_11 hfz13_2 hfz13_3 hfz13_4 hfz13_5 hfz13_6 hfz13_7 hfz13_8 hfz13_9
 try clear hcz15_0 hcz15_1 hcz15_10 hcz15_11 hcz15_2 hcz15_3 hcz15_4 hcz15_5 hcz15_6 hcz15_7 hcz15_8 hcz15_9 hfz15_0 hfz15_1 hfz15_10 hfz15_11 hfz15_2 hfz15_3 hfz15_4 hfz15_5 hfz15_6 hfz15_7 hfz15_8 hfz15_9
 try clear hcz21_0 hcz21_1 hcz21_10 hcz21_11 hcz21_2 hcz21_3 hcz21_4 hcz21_5 hcz21_6 hcz21_7 hcz21_8 hcz21_9 hfz21_0 hfz21_1 hfz21_10 hfz21_11 hfz21_2 hfz21_3 hfz21_4 hfz21_5 hfz21_6 hfz21_7 hfz21_8 hfz21_9
 try clear hcz23_0 hcz23_1 hcz23_10 hcz23_11 hcz23_2 hcz23_3 hcz23_4 hcz23_5 hcz23_6 hcz23_7 hcz23_8 hcz23_9 hfz23_0 hfz23_1 hfz23_10 hfz23_11 hfz23_2 hfz23_3 hfz23_4 hfz23_5 hfz23_6 hfz23_7 hfz23_8 hfz23_9
 try clear hcz25_0 hcz25_1 hcz25_10 hcz25_11 hcz25_2 hcz25_3 hcz25_4 hcz25_5 hcz25_6 hcz25_7 hcz25_8 hcz25_9 hfz25_0 hfz25_1 hfz25_10 hfz25_11 hfz25_2 hfz25_3 hfz25_4 hfz25_5 hfz25_6 hfz25_7 hfz25_8 hfz25_9
 try clear hcz27_0 hcz27_1 hcz27_10 hcz27_11 hcz27_2 hcz27_3 hcz27_4 hcz27_5 hcz27_6 hcz27_7 hcz27_8 hcz27_9 hfz27_0 hfz27_1 hfz27_10 hfz27_11 hfz27_2 hfz27_3 hfz27_4 hfz27_5 hfz27_6 hfz27_7 hfz27_8 hfz27_9
 try clear hcz28_0 hcz28_1 hcz28_10 hcz28_11 hcz28_2 hcz28_3 hcz28_4 hcz28_5 hcz28_6 hcz28_7 hcz28_8 hcz28_9 hfz28_0 hfz28_1 hfz28_10 hfz28_11 hfz28_2 hfz28_3 hfz28_4 hfz28_5 hfz28_6 hfz28_7 hfz28_8 hfz28_9
 try clear hcz29_0 hcz29_1 hcz29_10 hcz29_11 hcz29_2 hcz29_3 hcz29_4 hcz29_5 hcz29_6 hcz29_7 hcz29_8 hcz29_9 hfz29_0 hfz29_1 hfz29_10 hfz29_11 hfz29_2 hfz29_3 hfz29_4 hfz29_5 hfz29_6 hfz29_7 hfz29_8 hfz29_9
 try clear hcz30_0 hcz30_1 hcz30_10 hcz30_11 hcz30_2 hcz30_3 hcz30_4 hcz30_5 hcz30_6 hcz30_7 hcz30_8 hcz30_9 hfz30_0 hfz30_1 hfz30_10 hfz30_11 hfz30_2 hfz30_3 hfz30_4 hfz30_5 hfz30_6 hfz30_7 hfz30_8 hfz30_9
 try clear hcz31_0 hcz31_1 hcz31_10 hcz31_11 hcz31_2 hcz31_3 hcz31_4 hcz31_5 hcz31_6 hcz31_7 hcz31_8 hcz31_9 hfz31_0 hfz31_1 hfz31_10 hfz31_11 hfz31_2 hfz31_3 hfz31_4 hfz31_5 hfz31_6 hfz31_7 hfz31_8 hfz31_9
 try clear hcz32_0 hcz32_1 hcz32_10 hcz32_11 hcz32_2 hcz32_3 hcz32_4 hcz32_5 hcz32_6 hcz32_7 hcz32_8 hcz32_9 hfz32_0 hfz32_1 hfz32_10 hfz32_11 hfz32_2 hfz32_3 hfz32_4 hfz32_5 hfz32_6 hfz32_7 hfz32_8 hfz32_9
 try clear hcz33_0 hcz33_1 hcz33_10 hcz33_11 hcz33_2 hcz33_3 hcz33_4 hcz33_5 hcz33_6 hcz33_7 hcz33_8 hcz33_9 hfz33_0 hfz33_1 hfz33_10 hfz33_11 hfz33_2 hfz33_3 hfz33_4 hfz33_5 hfz33_6 hfz33_7 hfz33_8 hfz33_9
 try clear hcz34_0 hcz34_1 hcz34_10 hcz34_11 hcz34_2 hcz34_3 hcz34_4 hcz34_5 hcz34_6 hcz34_7 hcz34_8 hcz34_9 hfz34_0 hfz34_1 hfz34_10 hfz34_11 hfz34_2 hfz34_3 hfz34_4 hfz34_5 hfz34_6 hfz34_7 hfz34_8 hfz34_9
 obtain ⟨kq, x74_1, rfl, HA, HJ1, BK308, HB⟩ := hcut
 cases kq with
 | zero => exact absurd HA.out (by simp [impl_okSegment.j0])
 | succ kj1 => {
 have H := HA.out
 clear HA
 simp only [impl_okSegment.j0] at H
 by_cases c35 : x74_1 = true
 {
 subst c35
 have H1 : (some false) = some r := by rw [if_pos rfl] at H; exact H
 clear H
 have H := H1
 clear H1
 obtain rfl := Option.some.inj H
 go_wp2
 all_goals (try (rename_i h_; exfalso; cases h_; done))
 all_goals (try (rename_i h_ h2_; exfalso; cases h_; done))
 go_ret
 exact ⟨by first | rfl | (simp [errW_none, errW_some] <;> rfl) | (simp [*, errW_none, errW_some] <;> rfl), wB⟩
 }
 {
 replace c35 := Bool.eq_false_iff.mpr c35
 subst c35
 have H1 : (impl_okSegment.l0 kj1 l0_10 (l0_10.length : Int) 0) = some r := by rw [if_neg (show ¬ (false = true) by decide)] at H; exact H
 clear H
 have H := H1
 clear H1
 have H' := Aside0.mk H
 clear H
 obtain ⟨⟨hcz36_0, hcz36_1, hcz36_2, hcz36_3, hcz36_4, hcz36_5, hcz36_6, hcz36_7, hcz36_8, hcz36_9, hcz36_10, hcz36_11⟩, hfz36_0, hfz36_1, hfz36_2, hfz36_3, hfz36_4, hfz36_5, hfz36_6, hfz36_7, hfz36_8, hfz36_9, hfz36_10, hfz36_11⟩ := cells12 BK308.out
 go_wp2
 all_goals (try (rename_i h_; exfalso; cases h_; done))
 all_goals (try (rename_i h_ h2_; exfalso; cases h_; done))
 go_loopg [78] kj1 (fun kq v78 w' => ∃ (x78_2 : Int), v78 = .int .i64 x78_2 ∧ Aside0 (impl_okSegment.l0 kq l0_10 (l0_10.length : Int) x78_2 = some r) ∧ Aside0 (kq ≤ kj1) ∧ Aside0 (w'.heap[gb308]? = some (.cells #[.int .i64 a0_0, .int .i64 a0_1, .int .i64 a0_2, .int .i64 a0_3, .int .i64 a0_4, .int .i64 a0_5, .int .i64 a0_6, .bool a0_7, .int .i64 a0_8, .bool a0_9, (.slice A0_10 l0_10.length c0_10), (.slice A0_11 l0_11.length c0_11)] 51 (0, 0))) ∧ Aside0 (Below w.heap.size w w'))
 case atStart => exact ⟨(0), (by first | rfl | (simp; done) | (simp [*]; done)), H', ⟨Nat.le_refl _⟩, ⟨Bh BK308⟩, ⟨wB⟩⟩
 case round => (
 clear H'
 try clear c1
 try clear c2
 try clear p2
 try clear c3
 try clear c5
 try clear c7
 try clear c9
 try clear c11
 try clear c12
 try clear c12b0
 try clear c14
 try clear c14b0
 try clear c17
 try clear c19
 try clear c20
 try clear c20b0
 try clear c22
 try clear c22b0
 try clear c24
 try clear c26
 try clear c26b0
 try clear c26b1
 try clear c35
 try clear hcz13_0 hcz13_1 hcz13_10 hcz13_11 hcz13_2 hcz13_3 hcz13_4 hcz13_5 hcz13_6 hcz13_7 hcz13_8 hcz13_9 hfz13_0 hfz13_1 hfz13_10 hfz13_11 hfz13_2 hfz13_3 hfz13_4 hfz13_5 hfz13_6 hfz13_7 hfz13_8 hfz13_9
 try clear hcz15_0 hcz15_1 hcz15_10 hcz15_11 hcz15_2 hcz15_3 hcz15_4 hcz15_5 hcz15_6 hcz15_7 hcz15_8 hcz15_9 hfz15_0 hfz15_1 hfz15_10 hfz15_11 hfz15_2 hfz15_3 hfz15_4 hfz15_5 hfz15_6 hfz15_7 hfz15_8 hfz15_9
 try clear hcz21_0 hcz21_1 hcz21_10 hcz21_11 hcz21_2 hcz21_3 hcz21_4 hcz21_5 hcz21_6 hcz21_7 hcz21_8 hcz21_9 hfz21_0 hfz21_1 hfz21_10 hfz21_11 hfz21_2 hfz21_3 hfz21_4 hfz21_5 hfz21_6 hfz21_7 hfz21_8 hfz21_9
 try clear hcz23_0 hcz23_1 hcz23_10 hcz23_11 hcz23_2 hcz23_3 hcz23_4 hcz23_5 hcz23_6 hcz23_7 hcz23_8 hcz23_9 hfz23_0 hfz23_1 hfz23_10 hfz23_11 hfz23_2 hfz23_3 hfz23_4 hfz23_5 hfz23_6 hfz23_7 hfz23_8 hfz23_9
 try clear hcz25_0 hcz25_1 hcz25_10 hcz25_11 hcz25_2 hcz25_3 hcz25_4 hcz25_5 hcz25_6 hcz25_7 hcz25_8 hcz25_9 hfz25_0 hfz25_1 hfz25_10 hfz25_11 hfz25_2 hfz25_3 hfz25_4 hfz25_5 hfz25_6 hfz25_7 hfz25_8 hfz25_9
 try clear hcz27_0 hcz27_1 hcz27_10 hcz27_11 hcz27_2 hcz27_3 hcz27_4 hcz27_5 hcz27_6 hcz27_7 hcz27_8 hcz27_9 hfz27_0 hfz27_1 hfz27_10 hfz27_11 hfz27_2 hfz27_3 hfz27_4 hfz27_5 hfz27_6 hfz27_7 hfz27_8 hfz27_9
 try clear hcz28_0 hcz28_1 hcz28_10 hcz28_11 hcz28_2 hcz28_3 hcz28_4 hcz28_5 hcz28_6 hcz28_7 hcz28_8 hcz28_9 hfz28_0 hfz28_1 hfz28_10 hfz28_11 hfz28_2 hfz28_3 hfz28_4 hfz28_5 hfz28_6 hfz28_7 hfz28_8 hfz28_9
 try clear hcz29_0 hcz29_1 hcz29_10 hcz29_11 hcz29_2 hcz29_3 hcz29_4 hcz29_5 hcz29_6 hcz29_7 hcz29_8 hcz29_9 hfz29_0 hfz29_1 hfz29_10 hfz29_11 hfz29_2 hfz29_3 hfz29_4 hfz29_5 hfz29_6 hfz29_7 hfz29_8 hfz29_9
 try clear hcz30_0 hcz30_1 hcz30_10 hcz30_11 hcz30_2 hcz30_3 hcz30_4 hcz30_5 hcz30_6 hcz30_7 hcz30_8 hcz30_9 hfz30_0 hfz30_1 hfz30_10 hfz30_11 hfz30_2 hfz30_3 hfz30_4 hfz30_5 hfz30_6 hfz30_7 hfz30_8 hfz30_9
 try clear hcz31_0 hcz31_1 hcz31_10 hcz31_11 hcz31_2 hcz31_3 hcz31_4 hcz31_5 hcz31_6 hcz31_7 hcz31_8 hcz31_9 hfz31_0 hfz31_1 hfz31_10 hfz31_11 hfz31_2 hfz31_3 hfz31_4 hfz31_5 hfz31_6 hfz31_7 hfz31_8 hfz31_9
 try clear hcz32_0 hcz32_1 hcz32_10 hcz32_11 hcz32_2 hcz32_3 hcz32_4 hcz32_5 hcz32_6 hcz32_7 hcz32_8 hcz32_9 hfz32_0 hfz32_1 hfz32_10 hfz32_11 hfz32_2 hfz32_3 hfz32_4 hfz32_5 hfz32_6 hfz32_7 hfz32_8 hfz32_9
 try clear hcz33_0 hcz33_1 hcz33_10 hcz33_11 hcz33_2 hcz33_3 hcz33_4 hcz33_5 hcz33_6 hcz33_7 hcz33_8 hcz33_9 hfz33_0 hfz33_1 hfz33_10 hfz33_11 hfz33_2 hfz33_3 hfz33_4 hfz33_5 hfz33_6 hfz33_7 hfz33_8 hfz33_9
 try clear hcz34_0 hcz34_1 hcz34_10 hcz34_11 hcz34_2 hcz34_3 hcz34_4 hcz34_5 hcz34_6 hcz34_7 hcz34_8 hcz34_9 hfz34_0 hfz34_1 hfz34_10 hfz34_11 hfz34_2 hfz34_3 hfz34_4 hfz34_5 hfz34_6 hfz34_7 hfz34_8 hfz34_9
 try clear hcz36_0 hcz36_1 hcz36_10 hcz36_11 hcz36_2 hcz36_3 hcz36_4 hcz36_5 hcz36_6 hcz36_7 hcz36_8 hcz36_9 hfz36_0 hfz36_1 hfz36_10 hfz36_11 hfz36_2 hfz36_3 hfz36_4 hfz36_5 hfz36_6 hfz36_7 hfz36_8 hfz36_9
 try clear p2
 obtain ⟨x78_2, rfl, HA, HK2, BK308, HB⟩ := hrel
 cases gk with
 | zero => exact absurd HA.out (by simp [impl_okSegment.l0])
 | succ k2 => {
 have H := HA.out
 clear HA
 simp only [impl_okSegment.l0] at H
 by_cases c37 : x78_2 < (l0_10.length : Int)
 {
 rw [if_pos c37] at H
 have c37b0 : decide (x78_2 < (l0_10.length : Int)) = true := decide_eq_true c37
 clear c37
 by_cases c38 : 0 ≤ x78_2
 {
 rw [if_pos c38] at H
 have c38b0 : decide (0 ≤ x78_2) = true := decide_eq_true c38
 clear c38
 by_cases c39 : x78_2 < (l0_10.length : Int)
 {
 rw [if_pos c39] at H
 have c39b0 : decide (x78_2 < (l0_10.length : Int)) = true := decide_eq_true c39
 clear c39
 replace H := Option.bind_eq_some_iff.mp H
 obtain ⟨t317, A400, H⟩ := H
 replace H : (if t317 = true then ((impl_isSeq.f ((rd_T157 l0_10 x78_2).f1)).bind fun t318 => (if t318 = true then (impl_okSegment.l0 k2 l0_10 (l0_10.length : Int) (wrap64 (x78_2 + 1))) else (some false))) else (some false)) = some r := H
 have A40 := Aside0.mk A400
 clear A400
 by_cases c41 : t317 = true
 {
 subst c41
 have H1 : ((impl_isSeq.f ((rd_T157 l0_10 x78_2).f1)).bind fun t318 => (if t318 = true then (impl_okSegment.l0 k2 l0_10 (l0_10.length : Int) (wrap64 (x78_2 + 1))) else (some false))) = some r := by rw [if_pos rfl] at H; exact H
 clear H
 have H := H1
 clear H1
 replace H := Option.bind_eq_some_iff.mp H
 obtain ⟨t318, A420, H⟩ := H
 replace H : (if t318 = true then (impl_okSegment.l0 k2 l0_10 (l0_10.length : Int) (wrap64 (x78_2 + 1))) else (some false)) = some r := H
 have A42 := Aside0.mk A420
 clear A420
 by_cases c43 : t318 = true
 {
 subst c43
 have H1 : (impl_okSegment.l0 k2 l0_10 (l0_10.length : Int) (wrap64 (x78_2 + 1))) = some r := by rw [if_pos rfl] at H; exact H
 clear H
 have H := H1
 clear H1
 have H' := Aside0.mk H
 clear H
 have p315 : 0 ≤ (x78_2 : Int) := of_decide_eq_true (by first | (with_reducible assumption) | assumption)
 have q315 : x78_2 < (l0_10.length : Int) := of_decide_eq_true (by first | (with_reducible assumption) | assumption)
 obtain ⟨ad315, e315, hx315_0, hx315_1⟩ := at_T157 HR0_10.out x78_2 p315 q315
 cases e315
 replace hx315_0 := (HB.out.cell (World.block_lt_of_cell? w _ hx315_0)).trans hx315_0
 replace hx315_1 := (HB.out.cell (World.block_lt_of_cell? w _ hx315_1)).trans hx315_1
 replace p315 := eq_true p315
 replace q315 := eq_true q315
 go_wp2_with (first | ((with_reducible refine gate_dst (N := 4) rfl ?_); (try (refine gate_guard (by rfl) ?_; dsimp only)); refine box_event ?hg (N := 4) ?hd (cs := #[.int .i64 0, .int .i64 0]) (t := 157) ?hr ?_; (case hd => rfl); (case hg => rfl); (case hr => first | (go_simp; done) | (go_simp; rfl)); intro gb316 hg w44 hbox hb; have n0_ := Aside0.mk (blk_below (Bh BK308) hb); have n1_ := Aside0.mk (below_step wB hb); have n2_ := Aside0.mk (hbox); have n3_ := Aside0.mk ((by rw [hg]; exact (below_size wB) : w.heap.size ≤ gb316)); have n4_ := Aside0.mk ((by rw [hg]; exact (below_size wB) : w.heap.size ≤ gb316)); have n5_ := Aside0.mk ((by rw [hg]; exact Nat.ne_of_lt (blk_lt (Bh BK308)) : gb308 ≠ gb316)); have n6_ := Aside0.mk ((by rw [hg]; exact Nat.ne_of_gt (blk_lt (Bh BK308)) : gb316 ≠ gb308)); clear BK308; clear HB; have BK308 := n0_; have HB := n1_; have BK316 := n2_; have GW316 := n3_; have GE316 := n4_; have NB308_316 := n5_; have NB316_308 := n6_; clear n0_ n1_ n2_ n3_ n4_ n5_ n6_; clear hb hbox hg; have hnb45 := NB316_308.out; have hnc45 := NB308_316.out; obtain ⟨⟨hcz46_0, hcz46_1⟩, hfz46_0, hfz46_1⟩ := cells2 BK316.out) | ((with_reducible refine gate_store (t := 157) (p := 4) rfl ?_); refine store_event (t := 157) (p := 4) (v := ?vo_w47) (w1 := ((w44.setCell ⟨gb316, 0, none⟩ (.int .i64 ((rd_T157 l0_10 x78_2).f0))).setCell ⟨gb316, 1, none⟩ (.int .i64 ((rd_T157 l0_10 x78_2).f1)))) ?hg ?ho ?hn ?hr ?_; (case ho => rfl); (case hg => rfl); (case hn => rfl); (case hr => first | (go_simp; done) | (go_simp; rfl)); intro w47 hw; have n0_ : Aside0 (w47.heap[gb308]? = some (.cells #[.int .i64 a0_0, .int .i64 a0_1, .int .i64 a0_2, .int .i64 a0_3, .int .i64 a0_4, .int .i64 a0_5, .int .i64 a0_6, .bool a0_7, .int .i64 a0_8, .bool a0_9, .slice (some ad315) l0_10.length c0_10, .slice A0_11 l0_11.length c0_11] 51 (0, 0))) := ⟨(by rw [hw]; exact (by (with_reducible repeat (first | refine blk_drewN ?_ _ | refine blk_drew ?_ | refine blk_alloc ?_ _)); refine blk_far ?_ NB308_316.out _; (with_reducible repeat (first | refine blk_drewN ?_ _ | refine blk_drew ?_ | refine blk_alloc ?_ _)); refine blk_far ?_ NB308_316.out _; (with_reducible repeat (first | refine blk_drewN ?_ _ | refine blk_drew ?_ | refine blk_alloc ?_ _)); exact BK308.out))⟩; have n1_ : Aside0 (w47.heap[gb316]? = some (.cells #[.int .i64 ((rd_T157 l0_10 x78_2).f0), .int .i64 ((rd_T157 l0_10 x78_2).f1)] 157 (0, 0))) := ⟨(by rw [hw]; exact (by (with_reducible repeat (first | refine blk_drewN ?_ _ | refine blk_drew ?_ | refine blk_alloc ?_ _)); refine blk_put (cs := #[.int .i64 ((rd_T157 l0_10 x78_2).f0), .int .i64 0]) ?_ 1 _ rfl; (with_reducible repeat (first | refine blk_drewN ?_ _ | refine blk_drew ?_ | refine blk_alloc ?_ _)); refine blk_put (cs := #[.int .i64 0, .int .i64 0]) ?_ 0 _ rfl; (with_reducible repeat (first | refine blk_drewN ?_ _ | refine blk_drew ?_ | refine blk_alloc ?_ _)); exact BK316.out))⟩; have n2_ : Aside0 (Below w.heap.size w w47) := ⟨(by rw [hw]; exact wB)⟩; clear hw; clear BK308; clear BK316; clear HB; have BK308 := n0_; have BK316 := n1_; have HB := n2_; clear n0_ n1_ n2_; obtain ⟨⟨hcz48_0, hcz48_1⟩, hfz48_0, hfz48_1⟩ := cells2 BK316.out) | (go_at_call 153; (with_reducible refine (impl_isSeq.calls ((rd_T157 l0_10 x78_2).f0) true _ A40.out).mono ?_); rintro e w' ⟨rfl, ⟨nd, rfl⟩⟩) | (go_at_call 153; (with_reducible refine (impl_isSeq.calls ((rd_T157 l0_10 x78_2).f1) true _ A42.out).mono ?_); rintro e w' ⟨rfl, ⟨nd, rfl⟩⟩))
 all_goals (try (rename_i h_; exfalso; cases h_; done))
 all_goals (try (rename_i h_ h2_; exfalso; cases h_; done))
 go_roundg k2
 case measure => have := HJ1.out; have := HK2.out; omega
 case rel => exact ⟨(wrap64 (x78_2 + 1)), (by first | rfl | (simp; done) | (simp [*]; done)), H', ⟨by have := HJ1.out; have := HK2.out; omega⟩, ⟨Bh BK308⟩, ⟨wB⟩⟩
 }
 {
 replace c43 := Bool.eq_false_iff.mpr c43
 subst c43
 have H1 : (some false) = some r := by rw [if_neg (show ¬ (false = true) by decide)] at H; exact H
 clear H
 have H := H1
 clear H1
 obtain rfl := Option.some.inj H
 have p315 : 0 ≤ (x78_2 : Int) := of_decide_eq_true (by first | (with_reducible assumption) | assumption)
 have q315 : x78_2 < (l0_10.length : Int) := of_decide_eq_true (by first | (with_reducible assumption) | assumption)
 obtain ⟨ad315, e315, hx315_0, hx315_1⟩ := at_T157 HR0_10.out x78_2 p315 q315
 cases e315
 replace hx315_0 := (HB.out.cell (World.block_lt_of_cell? w _ hx315_0)).trans hx315_0
 replace hx315_1 := (HB.out.cell (World.block_lt_of_cell? w _ hx315_1)).trans hx315_1
 replace p315 := eq_true p315
 replace q315 := eq_true q315
 go_wp2_with (first | ((with_reducible refine gate_dst (N := 4) rfl ?_); (try (refine gate_guard (by rfl) ?_; dsimp only)); refine box_event ?hg (N := 4) ?hd (cs := #[.int .i64 0, .int .i64 0]) (t := 157) ?hr ?_; (case hd => rfl); (case hg => rfl); (case hr => first | (go_simp; done) | (go_simp; rfl)); intro gb316 hg w49 hbox hb; have n0_ := Aside0.mk (blk_below (Bh BK308) hb); have n1_ := Aside0.mk (below_step wB hb); have n2_ := Aside0.mk (hbox); have n3_ := Aside0.mk ((by rw [hg]; exact (below_size wB) : w.heap.size ≤ gb316)); have n4_ := Aside0.mk ((by rw [hg]; exact (below_size wB) : w.heap.size ≤ gb316)); have n5_ := Aside0.mk ((by rw [hg]; exact Nat.ne_of_lt (blk_lt (Bh BK308)) : gb308 ≠ gb316)); have n6_ := Aside0.mk ((by rw [hg]; exact Nat.ne_of_gt (blk_lt (Bh BK308)) : gb316 ≠ gb308)); clear BK308; clear HB; have BK308 := n0_; have HB := n1_; have BK316 := n2_; have GW316 := n3_; have GE316 := n4_; have NB308_316 := n5_; have NB316_308 := n6_; clear n0_ n1_ n2_ n3_ n4_ n5_ n6_; clear hb hbox hg; have hnb50 := NB316_308.out; have hnc50 := NB308_316.out; obtain ⟨⟨hcz51_0, hcz51_1⟩, hfz51_0, hfz51_1⟩ := cells2 BK316.out) | ((with_reducible refine gate_store (t := 157) (p := 4) rfl ?_); refine store_event (t := 157) (p := 4) (v := ?vo_w52) (w1 := ((w49.setCell ⟨gb316, 0, none⟩ (.int .i64 ((rd_T157 l0_10 x78_2).f0))).setCell ⟨gb316, 1, none⟩ (.int .i64 ((rd_T157 l0_10 x78_2).f1)))) ?hg ?ho ?hn ?hr ?_; (case ho => rfl); (case hg => rfl); (case hn => rfl); (case hr => first | (go_simp; done) | (go_simp; rfl)); intro w52 hw; have n0_ : Aside0 (w52.heap[gb308]? = some (.cells #[.int .i64 a0_0, .int .i64 a0_1, .int .i64 a0_2, .int .i64 a0_3, .int .i64 a0_4, .int .i64 a0_5, .int .i64 a0_6, .bool a0_7, .int .i64 a0_8, .bool a0_9, .slice (some ad315) l0_10.length c0_10, .slice A0_11 l0_11.length c0_11] 51 (0, 0))) := ⟨(by rw [hw]; exact (by (with_reducible repeat (first | refine blk_drewN ?_ _ | refine blk_drew ?_ | refine blk_alloc ?_ _)); refine blk_far ?_ NB308_316.out _; (with_reducible repeat (first | refine blk_drewN ?_ _ | refine blk_drew ?_ | refine blk_alloc ?_ _)); refine blk_far ?_ NB308_316.out _; (with_reducible repeat (first | refine blk_drewN ?_ _ | refine blk_drew ?_ | refine blk_alloc ?_ _)); exact BK308.out))⟩; have n1_ : Aside0 (w52.heap[gb316]? = some (.cells #[.int .i64 ((rd_T157 l0_10 x78_2).f0), .int .i64 ((rd_T157 l0_10 x78_2).f1)] 157 (0, 0))) := ⟨(by rw [hw]; exact (by (with_reducible repeat (first | refine blk_drewN ?_ _ | refine blk_drew ?_ | refine blk_alloc ?_ _)); refine blk_put (cs := #[.int .i64 ((rd_T157 l0_10 x78_2).f0), .int .i64 0]) ?_ 1 _ rfl; (with_reducible repeat (first | refine blk_drewN ?_ _ | refine blk_drew ?_ | refine blk_alloc ?_ _)); refine blk_put (cs := #[.int .i64 0, .int .i64 0]) ?_ 0 _ rfl; (with_reducible repeat (first | refine blk_drewN ?_ _ | refine blk_drew ?_ | refine blk_alloc ?_ _)); exact BK316.out))⟩; have n2_ : Aside0 (Below w.heap.size w w52) := ⟨(by rw [hw]; exact wB)⟩; clear hw; clear BK308; clear BK316; clear HB; have BK308 := n0_; have BK316 := n1_; have HB := n2_; clear n0_ n1_ n2_; obtain ⟨⟨hcz53_0, hcz53_1⟩, hfz53_0, hfz53_1⟩ := cells2 BK316.out) | (go_at_call 153; (with_reducible refine (impl_isSeq.calls ((rd_T157 l0_10 x78_2).f0) true _ A40.out).mono ?_); rintro e w' ⟨rfl, ⟨nd, rfl⟩⟩) | (go_at_call 153; (with_reducible refine (impl_isSeq.calls ((rd_T157 l0_10 x78_2).f1) false _ A42.out).mono ?_); rintro e w' ⟨rfl, ⟨nd, rfl⟩⟩))
 all_goals (try (rename_i h_; exfalso; cases h_; done))
 all_goals (try (rename_i h_ h2_; exfalso; cases h_; done))
 go_ret
 exact ⟨by first | rfl | (simp [errW_none, errW_some] <;> rfl) | (simp [*, errW_none, errW_some] <;> rfl), wB⟩
 }
 }
 {
 replace c41 := Bool.eq_false_iff.mpr c41
 subst c41
 have H1 : (some false) = some r := by rw [if_neg (show ¬ (false = true) by decide)] at H; exact H
 clear H
 have H := H1
 clear H1
 obtain rfl := Option.some.inj H
 have p315 : 0 ≤ (x78_2 : Int) := of_decide_eq_true (by first | (with_reducible assumption) | assumption)
 have q315 : x78_2 < (l0_10.length : Int) := of_decide_eq_true (by first | (with_reducible assumption) | assumption)
 obtain ⟨ad315, e315, hx315_0, hx315_1⟩ := at_T157 HR0_10.out x78_2 p315 q315
 cases e315
 replace hx315_0 := (HB.out.cell (World.block_lt_of_cell? w _ hx315_0)).trans hx315_0
 replace hx315_1 := (HB.out.cell (World.block_lt_of_cell? w _ hx315_1)).trans hx315_1
 replace p315 := eq_true p315
 replace q315 := eq_true q315
 go_wp2_with (first | ((with_reducible refine gate_dst (N := 4) rfl ?_); (try (refine gate_guard (by rfl) ?_; dsimp only)); refine box_event ?hg (N := 4) ?hd (cs := #[.int .i64 0, .int .i64 0]) (t := 157) ?hr ?_; (case hd => rfl); (case hg => rfl); (case hr => first | (go_simp; done) | (go_simp; rfl)); intro gb316 hg w54 hbox hb; have n0_ := Aside0.mk (blk_below (Bh BK308) hb); have n1_ := Aside0.mk (below_step wB hb); have n2_ := Aside0.mk (hbox); have n3_ := Aside0.mk ((by rw [hg]; exact (below_size wB) : w.heap.size ≤ gb316)); have n4_ := Aside0.mk ((by rw [hg]; exact (below_size wB) : w.heap.size ≤ gb316)); have n5_ := Aside0.mk ((by rw [hg]; exact Nat.ne_of_lt (blk_lt (Bh BK308)) : gb308 ≠ gb316)); have n6_ := Aside0.mk ((by rw [hg]; exact Nat.ne_of_gt (blk_lt (Bh BK308)) : gb316 ≠ gb308)); clear BK308; clear HB; have BK308 := n0_; have HB := n1_; have BK316 := n2_; have GW316 := n3_; have GE316 := n4_; have NB308_316 := n5_; have NB316_308 := n6_; clear n0_ n1_ n2_ n3_ n4_ n5_ n6_; clear hb hbox hg; have hnb55 := NB316_308.out; have hnc55 := NB308_316.out; obtain ⟨⟨hcz56_0, hcz56_1⟩, hfz56_0, hfz56_1⟩ := cells2 BK316.out) | ((with_reducible refine gate_store (t := 157) (p := 4) rfl ?_); refine store_event (t := 157) (p := 4) (v := ?vo_w57) (w1 := ((w54.setCell ⟨gb316, 0, none⟩ (.int .i64 ((rd_T157 l0_10 x78_2).f0))).setCell ⟨gb316, 1, none⟩ (.int .i64 ((rd_T157 l0_10 x78_2).f1)))) ?hg ?ho ?hn ?hr ?_; (case ho => rfl); (case hg => rfl); (case hn => rfl); (case hr => first | (go_simp; done) | (go_simp; rfl)); intro w57 hw; have n0_ : Aside0 (w57.heap[gb308]? = some (.cells #[.int .i64 a0_0, .int .i64 a0_1, .int .i64 a0_2, .int .i64 a0_3, .int .i64 a0_4, .int .i64 a0_5, .int .i64 a0_6, .bool a0_7, .int .i64 a0_8, .bool a0_9, .slice (some ad315) l0_10.length c0_10, .slice A0_11 l0_11.length c0_11] 51 (0, 0))) := ⟨(by rw [hw]; exact (by (with_reducible repeat (first | refine blk_drewN ?_ _ | refine blk_drew ?_ | refine blk_alloc ?_ _)); refine blk_far ?_ NB308_316.out _; (with_reducible repeat (first | refine blk_drewN ?_ _ | refine blk_drew ?_ | refine blk_alloc ?_ _)); refine blk_far ?_ NB308_316.out _; (with_reducible repeat (first | refine blk_drewN ?_ _ | refine blk_drew ?_ | refine blk_alloc ?_ _)); exact BK308.out))⟩; have n1_ : Aside0 (w57.heap[gb316]? = some (.cells #[.int .i64 ((rd_T157 l0_10 x78_2).f0), .int .i64 ((rd_T157 l0_10 x78_2).f1)] 157 (0, 0))) := ⟨(by rw [hw]; exact (by (with_reducible repeat (first | refine blk_drewN ?_ _ | refine blk_drew ?_ | refine blk_alloc ?_ _)); refine blk_put (cs := #[.int .i64 ((rd_T157 l0_10 x78_2).f0), .int .i64 0]) ?_ 1 _ rfl; (with_reducible repeat (first | refine blk_drewN ?_ _ | refine blk_drew ?_ | refine blk_alloc ?_ _)); refine blk_put (cs := #[.int .i64 0, .int .i64 0]) ?_ 0 _ rfl; (with_reducible repeat (first | refine blk_drewN ?_ _ | refine blk_drew ?_ | refine blk_alloc ?_ _)); exact BK316.out))⟩; have n2_ : Aside0 (Below w.heap.size w w57) := ⟨(by rw [hw]; exact wB)⟩; clear hw; clear BK308; clear BK316; clear HB; have BK308 := n0_; have BK316 := n1_; have HB := n2_; clear n0_ n1_ n2_; obtain ⟨⟨hcz58_0, hcz58_1⟩, hfz58_0, hfz58_1⟩ := cells2 BK316.out) | (go_at_call 153; (with_reducible refine (impl_isSeq.calls ((rd_T157 l0_10 x78_2).f0) false _ A40.out).mono ?_); rintro e w' ⟨rfl, ⟨nd, rfl⟩⟩))
 all_goals (try (rename_i h_; exfalso; cases h_; done))
 all_goals (try (rename_i h_ h2_; exfalso; cases h_; done))
 go_ret
 exact ⟨by first | rfl | (simp [errW_none, errW_some] <;> rfl) | (simp [*, errW_none, errW_some] <;> rfl), wB⟩
 }
 }
 {
 rw [if_neg c39] at H
 exact absurd H (by simp)
 }
 }
 {
 rw [if_neg c38] at H
 exact absurd H (by simp)
 }
 }
 {
 rw [if_neg c37] at H
 have c37b0 : decide (x78_2 < (l0_10.length : Int)) = false := decide_eq_false c37
 clear c37
 obtain rfl := Option.some.inj H
 go_wp2
 all_goals (try (rename_i h_; exfalso; cases h_; done))
 all_goals (try (rename_i h_ h2_; exfalso; cases h_; done))
 go_ret
 exact ⟨by first | rfl | (simp [errW_none, errW_some] <;> rfl) | (simp [*, errW_none, errW_some] <;> rfl), wB⟩
 }
 }
 )
 }
 }
 )

/-! ### impl_put: function 127 -/
def impl_put.l0 : Nat → List Int → Int → Int → Option (List Int)
  | 0, _, _, _ => none
  | k + 1, x0, x2, x7 => if x7 ≥ 0 then (if 0 ≤ (wrap64 (8 * x7)) then (if x0.length < 140737488355328 then (impl_put.l0 k (x0 ++ [(shr .u64 (IntKind.u64.wrap (x2)) (wrap64 (8 * x7))) % 256]) x2 (wrap64 (x7 - 1))) else (none)) else (none)) else (some x0)
def impl_put.f (k : Nat) (l0 : List Int) (a1 : Int) (a2 : Int) : Option (List Int) := impl_put.l0 k l0 a2 (wrap64 (a1 - 1))
theorem impl_put.mono_l : ∀ k, (∀ y0 y1 y2, LeO (impl_put.l0 k y0 y1 y2) (impl_put.l0 (k + 1) y0 y1 y2))
  | 0 => fun _ _ _ r h => by simp [impl_put.l0] at h
  | k + 1 => by
    have ih0 := impl_put.mono_l k
    · intro y0 y1 y2
      unfold impl_put.l0
      repeat' first
      | (with_reducible exact ih0 _ _ _)
      | (with_reducible exact LeO.refl _)
      | (with_reducible exact LeO.none _)
      | (with_reducible refine LeO.ite ?_ ?_)
      | (with_reducible refine LeO.bind ?_ (fun _ => ?_))
      | exact ih0 _ _ _
      | exact LeO.none _
      | refine LeO.ite ?_ ?_
      | refine LeO.bind ?_ (fun _ => ?_)
theorem impl_put.mono : ∀ a0 a1 a2 k, LeO (impl_put.f k a0 a1 a2) (impl_put.f (k + 1) a0 a1 a2) := by
 intro a0 a1 a2 k
 have ih0 := impl_put.mono_l k
 unfold impl_put.f
 repeat' first
     | (with_reducible exact ih0 _ _ _)
     | (with_reducible exact LeO.refl _)
     | (with_reducible exact LeO.none _)
     | (with_reducible refine LeO.ite ?_ ?_)
     | (with_reducible refine LeO.bind ?_ (fun _ => ?_))
     | exact ih0 _ _ _
     | exact LeO.none _
     | refine LeO.ite ?_ ?_
     | refine LeO.bind ?_ (fun _ => ?_)
set_option maxHeartbeats 8000000 in
set_option maxRecDepth 100000 in
theorem impl_put.calls (k : Nat) (P0_ : Nat → Prop) (u9000_ : Value) (l0 : List Int) (a1 : Int) (a2 : Int) (r : List Int) (w0 w : World) (hB : Below w0.heap.size w0 w) (ho0 : Kd.R (Kd.int .u8) 5 w w0.heap.size P0_ u9000_ l0) (h : impl_put.f k l0 a1 a2 = some r) :
 Calls Try.prog 127 #[u9000_, .int .i64 a1, .int .i64 a2] w fun e w' => ∃ v0_ : Value, e = .returned (v0_) ∧ Kd.R (Kd.int .u8) 5 w' w0.heap.size (fun k_ => (P0_ k_ ∨ w.heap.size ≤ k_)) v0_ r ∧ Below w0.heap.size w0 w' ∧ Kept w w' (fun k_ => P0_ k_) := by
 have HO0 := Aside0.mk (show Kd.R (Kd.int .u8) 5 w w0.heap.size (fun k_ => (P0_ k_ ∨ w.heap.size ≤ k_)) u9000_ l0 from Kd.R_mono ho0 (fun k_ hk => (.inl hk)))
 have HK := Aside0.mk (Kept.refl w (fun k_ => P0_ k_))
 have HW0 := Aside0.mk hB.size
 have HB := Aside0.mk hB
 clear hB
 have H : (impl_put.l0 k l0 a2 (wrap64 (a1 - 1))) = some r := h
 clear h
 have H' := Aside0.mk H
 clear H
 go_enter Try.func127, Try.ntmps127
 go_wp2
 go_loopg [0, 7] k (fun kq v0 v7 w' => ∃ (x0_1 : List Int) (x7_1 : Int), v7 = .int .i64 x7_1 ∧ Aside0 (impl_put.l0 kq x0_1 a2 x7_1 = some r) ∧ Aside0 (kq ≤ k) ∧ Aside0 (Kd.R (Kd.int .u8) 5 w' w0.heap.size (fun k_ => (P0_ k_ ∨ w.heap.size ≤ k_)) v0 x0_1) ∧ Aside0 (Kept w w' (fun k_ => P0_ k_)) ∧ Aside0 (Below w0.heap.size w0 w'))
 case atStart => exact ⟨(l0), (wrap64 (a1 - 1)), (by first | rfl | (simp; done) | (simp [*]; done)), H', ⟨Nat.le_refl _⟩, ⟨Rh HO0⟩, ⟨by repeat (first | (with_reducible first | exact HK.out | apply Kept.alloc | apply Kept.drewN | apply Kept.drew) | exact HK.out)⟩, ⟨wB⟩⟩
 case round => (
 clear H'
 try clear c1
 try clear p2
 obtain ⟨x0_1, x7_1, rfl, HA, HK1, HO_0, HK, HB⟩ := hrel
 cases gk with
 | zero => exact absurd HA.out (by simp [impl_put.l0])
 | succ k1 => {
 have H := HA.out
 clear HA
 simp only [impl_put.l0] at H
 by_cases c4 : x7_1 ≥ 0
 {
 rw [if_pos c4] at H
 have c4b0 : decide (0 ≤ x7_1) = true := decide_eq_true c4
 clear c4
 obtain ⟨ji5, hji5⟩ : ∃ j_ : Int, (wrap64 (8 * x7_1)) = j_ := ⟨_, rfl⟩
 replace H : (if 0 ≤ (ji5) then (if x0_1.length < 140737488355328 then (impl_put.l0 k1 (x0_1 ++ [(shr .u64 (IntKind.u64.wrap (a2)) (ji5)) % 256]) a2 (wrap64 (x7_1 - 1))) else (none)) else (none)) = some r := by first | (rw [hji5] at H; exact H) | (simp only [hji5] at H ⊢; exact H)
 have hji5w : (IntKind.i64.wrap (8 * x7_1)) = ji5 := (i64_w _).trans hji5
 by_cases c6 : 0 ≤ (ji5)
 {
 rw [if_pos c6] at H
 have c6b0 := eq_true c6
 have c6b1 : decide (0 ≤ (ji5)) = true := decide_eq_true c6
 clear c6
 obtain ⟨ji7, hji7⟩ : ∃ j_ : Int, (shr .u64 (IntKind.u64.wrap (a2)) (ji5)) = j_ := ⟨_, rfl⟩
 replace H : (if x0_1.length < 140737488355328 then (impl_put.l0 k1 (x0_1 ++ [(ji7) % 256]) a2 (wrap64 (x7_1 - 1))) else (none)) = some r := by first | (rw [hji7] at H; exact H) | (simp only [hji7] at H ⊢; exact H)
 have hji7_ : ((IntKind.u64.wrap (a2)) / 2 ^ min (ji5).toNat 64) = ji7 := hji7
 have hji7z : (ji5) ≤ 64 → ((IntKind.u64.wrap (a2)) / 2 ^ (ji5).toNat) = ji7 := shr_small hji7
 by_cases c8 : x0_1.length < 140737488355328
 {
 rw [if_pos c8] at H
 have LMc8 := Aside0.mk c8
 clear c8
 obtain ⟨y319, hy319⟩ : ∃ y_ : List Int, y_ = (x0_1 ++ [(ji7) % 256]) := ⟨_, rfl⟩
 replace H : (impl_put.l0 k1 y319 a2 (wrap64 (x7_1 - 1))) = some r := by first | (rw [hy319]; with_reducible exact H) | (have H2_ := (Option.bind_some _ _).symm.trans H; rw [hy319]; with_reducible exact H2_) | (have H2_ := (Option.bind_some _ _).symm.trans H; with_reducible exact H2_) | with_reducible exact H | (rw [hy319]; exact H) | exact H
 have Ny319 := Aside0.mk hy319
 clear hy319
 have H' := Aside0.mk H
 clear H
 go_wp2_with (first | ((with_reducible refine gate_builtin (b := .append) (xs := #[.tmp 14, .tmp 21]) rfl ?_); at_builtin; refine Kd.R_append (Kd.int .u8) (w0 := w0) w0.heap.size rfl (.tmp 14) (.tmp 21) 22 5 (.int .u8 0) 1 rfl Try.underlying22 info5 rfl (by decide) (by omega) u0 x0_1 ((ji7) % 256) [.int .u8 ((ji7) % 256)] (fun k_ => (P0_ k_ ∨ w.heap.size ≤ k_)) (fun _ => False) rfl rfl ?aP (fun _ hk => hk.elim) ?aF ?aO ?aB ?aS ?aL ?_; (case aP => exact rfl); (case aB => exact wB); (case aF => exact (fun k_ hk => (.inr (Nat.le_trans (by first | exact HK.out.1 | exact (show Kept w _ (fun k_ => P0_ k_) from by repeat (first | (with_reducible first | exact HK.out | apply Kept.alloc | apply Kept.drewN | apply Kept.drew) | exact HK.out)).1) hk)))); (case aO => exact (Rh HO_0)); (case aS => exact (below_size wB)); (case aL => have := LMc8.out; omega); intro v320 w9 ho hb hg hat; rw [← Ny319.out] at ho; have n0_ := Aside0.mk (hb); have n1_ := Aside0.mk (Kept.of_grown (S := (fun k_ => P0_ k_)) hg (by repeat (first | (with_reducible first | exact HK.out | apply Kept.alloc | apply Kept.drewN | apply Kept.drew) | exact HK.out)) (fun k_ e_ => (HO_0.out.1 k_ e_))); have n2_ := Aside0.mk (ho); clear HB; clear HK; clear HO_0; have HB := n0_; have HK := n1_; have HO321 := n2_; clear n0_ n1_ n2_; clear ho hb hg hat))
 go_roundg k1
 case measure => have := HK1.out; omega
 case rel => exact ⟨(y319), (wrap64 (x7_1 - 1)), (by first | rfl | (simp; done) | (simp [*]; done)), H', ⟨by have := HK1.out; omega⟩, ⟨Rh HO321⟩, ⟨by repeat (first | (with_reducible first | exact HK.out | apply Kept.alloc | apply Kept.drewN | apply Kept.drew) | exact HK.out)⟩, ⟨wB⟩⟩
 }
 {
 rw [if_neg c8] at H
 exact absurd H (by simp)
 }
 }
 {
 rw [if_neg c6] at H
 exact absurd H (by simp)
 }
 }
 {
 rw [if_neg c4] at H
 have c4b0 : decide (0 ≤ x7_1) = false := decide_eq_false c4
 clear c4
 obtain rfl := Option.some.inj H
 go_wp2
 go_ret
 exact ⟨_, by first | rfl | (simp [errW_none, errW_some] <;> rfl) | (simp [*, errW_none, errW_some] <;> rfl), by (with_reducible repeat (first | apply Kd.R_alloc | apply Kd.R_drewN | apply Kd.R_drew)); exact HO_0.out, wB, by repeat (first | (with_reducible first | exact HK.out | apply Kept.alloc | apply Kept.drewN | apply Kept.drew) | exact HK.out)⟩
 }
 }
 )

end Go.Proofs.Ytobaoffcepmeiaa.PFnExactEncodeSegment
