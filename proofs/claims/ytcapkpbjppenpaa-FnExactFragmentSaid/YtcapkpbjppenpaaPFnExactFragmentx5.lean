-- Written for this claim by a program of this session (wip/mkprint.py: the print, turned at a few places). Not trusted: Lean checks it.
import Derived.Test.YtcapkpbjppenpaaPFnExactFragmentx0
import Derived.Test.YtcapkpbjppenpaaPFnExactFragmentx4
namespace Go.Proofs.Ytcapkpbjppenpaa.PFnExactFragment
open Go.RowKit Go.Proofs.YtcapkpbjppenpaaW.PrintWords Go.Proofs.YtcapkpbjppenpaaW.PrintLast Go.Proofs.YtcapkpbjppenpaaW.PrintMore
attribute [local go_sem] max2_int min2_int max_two min_two max_three min_three max_four min_four   -- for this text's walks alone
set_option linter.unusedVariables false
set_option linter.unusedSimpArgs false

/-! ### impl_Fragment: function 7 -/
/-- the two rows of a packet do not lie in one block -/
def ApR (cs : List Value) : Prop := ∀ k, (cs.getD 9 undef).ownBlock = some k → (cs.getD 10 undef).ownBlock ≠ some k
/-- a packet whose two rows lie apart -/
def kP : Kd S29 where
  sz := k29.sz
  E := k29.E
  K := k29.K
  M := fun w base ok x cs => k29.M w base ok x cs ∧ ApR cs
  K_len := fun h => k29.K_len h
  K_one := fun h => k29.K_one h
  K_below := fun hb h => k29.K_below hb h
  K_of_M := fun h => k29.K_of_M h.1
  M_mono := fun hok h => ⟨k29.M_mono hok h.1, h.2⟩
  M_bound := fun h => ⟨k29.M_bound h.1, h.2⟩
  M_move := fun hm h => ⟨k29.M_move hm h.1, h.2⟩
  M_lower := fun hb h => ⟨k29.M_lower hb h.1, h.2⟩
theorem lit_one {α : Type} {d : Kd α} {W : World} {base : Nat} {okj : Nat → Nat → Prop} {p : α} {cs : List Value} (h : d.M W base (okj 0) p cs) : ∀ (j : Nat) (x : α), [p][j]? = some x → d.M W base (okj j) x ((cs.drop (j * d.sz)).take d.sz) := by
  intro j x hj
  rcases j with _ | j
  · obtain rfl := Option.some.inj hj
    rw [Nat.zero_mul, List.drop_zero, List.take_of_length_le (Nat.le_of_eq (d.K_len (d.K_of_M h)))]
    exact h
  · simp at hj
/-! ### impl_Fragment: function 7 -/
mutual
def impl_Fragment.j0 : Nat → Int → Bool → Int → Int → Bool → Bool → Int → Int → Int → Int → Int → List Int → List Int → Option ((List (S29)) × Int)
  | 0, _, _, _, _, _, _, _, _, _, _, _, _, _ => none
  | k + 1, x1, x22, x292000, x292001, x292002, x292003, x292004, x292005, x292006, x292007, x292008, x292009, x292010 => if x22 = true then (some (([] : List (S29)), 1)) else ((impl_PacketSize.f x292000 x292001 x292002 x292003 x292004 x292005 x292006 x292007 x292008 x292009 x292010).bind fun t293 => (if t293 ≤ x1 then ((impl_ownPacket.f x292000 x292001 x292002 x292003 x292004 x292005 x292006 x292007 x292008 x292009 x292010).bind fun bt294 => (some ((([(⟨bt294.1, bt294.2.1, bt294.2.2.1, bt294.2.2.2.1, bt294.2.2.2.2.1, bt294.2.2.2.2.2.1, bt294.2.2.2.2.2.2.1, bt294.2.2.2.2.2.2.2.1, bt294.2.2.2.2.2.2.2.2.1, bt294.2.2.2.2.2.2.2.2.2.1, bt294.2.2.2.2.2.2.2.2.2.2⟩ : S29)] : List (S29))), 0))) else (if x292002 = true then (impl_Fragment.j1 k (wrap64 ((wrap64 (x1 - 20)) - (x292009.length : Int))) true x292000 x292001 x292002 x292003 x292004 x292005 x292006 x292007 x292008 x292009 x292010) else (impl_Fragment.j1 k (wrap64 ((wrap64 (x1 - 20)) - (x292009.length : Int))) (decide ((wrap64 ((wrap64 (x1 - 20)) - (x292009.length : Int))) < 8)) x292000 x292001 x292002 x292003 x292004 x292005 x292006 x292007 x292008 x292009 x292010))))
def impl_Fragment.j1 : Nat → Int → Bool → Int → Int → Bool → Bool → Int → Int → Int → Int → Int → List Int → List Int → Option ((List (S29)) × Int)
  | 0, _, _, _, _, _, _, _, _, _, _, _, _, _ => none
  | k + 1, x6, x41, x292000, x292001, x292002, x292003, x292004, x292005, x292006, x292007, x292008, x292009, x292010 => if x41 = true then (some (([] : List (S29)), 7)) else (impl_Fragment.l0 k ([] : List (S29)) (wrap64 ((wrap64 (Int.tdiv x6 8)) * 8)) 0 x292000 x292001 x292002 x292003 x292004 x292005 x292006 x292007 x292008 x292009 x292010)
def impl_Fragment.l0 : Nat → List (S29) → Int → Int → Int → Int → Bool → Bool → Int → Int → Int → Int → Int → List Int → List Int → Option ((List (S29)) × Int)
  | 0, _, _, _, _, _, _, _, _, _, _, _, _, _, _ => none
  | k + 1, x7, x8, x9, x292000, x292001, x292002, x292003, x292004, x292005, x292006, x292007, x292008, x292009, x292010 => (impl_dup.f x292009).bind fun t313 => (if (wrap64 ((x292010.length : Int) - x9)) ≤ x8 then (if 0 ≤ x9 then (if x9 ≤ (x292010.length : Int) then ((impl_dup.f (x292010.drop (x9 : Int).toNat)).bind fun t317 => (if x7.length < 1256584717458 then (some ((x7 ++ [(⟨x292000, x292001, x292002, x292003, wrap64 (x292004 + x9), x292005, x292006, x292007, x292008, t313, t317⟩ : S29)]), 0)) else (none))) else (none)) else (none)) else (if 0 ≤ x9 then (if x9 ≤ (wrap64 (x9 + x8)) then (if (wrap64 (x9 + x8)) ≤ (x292010.length : Int) then ((impl_dup.f ((x292010.take ((wrap64 (x9 + x8)) : Int).toNat).drop (x9 : Int).toNat)).bind fun t324 => (if x7.length < 1256584717458 then (impl_Fragment.l0 k (x7 ++ [(⟨x292000, x292001, x292002, true, wrap64 (x292004 + x9), x292005, x292006, x292007, x292008, t313, t324⟩ : S29)]) x8 (wrap64 (x9 + x8)) x292000 x292001 x292002 x292003 x292004 x292005 x292006 x292007 x292008 x292009 x292010) else (none))) else (none)) else (none)) else (none)))
end
def impl_Fragment.f (k : Nat) (a0_0 : Int) (a0_1 : Int) (a0_2 : Bool) (a0_3 : Bool) (a0_4 : Int) (a0_5 : Int) (a0_6 : Int) (a0_7 : Int) (a0_8 : Int) (l0_9 : List Int) (l0_10 : List Int) (a1 : Int) : Option ((List (S29)) × Int) := (impl_codeIP.f a0_0 a0_1 a0_2 a0_3 a0_4 a0_5 a0_6 a0_7 a0_8 l0_9 l0_10).bind fun t292 => (if t292 = 0 then (if a1 < 68 then (impl_Fragment.j0 k a1 true a0_0 a0_1 a0_2 a0_3 a0_4 a0_5 a0_6 a0_7 a0_8 l0_9 l0_10) else (impl_Fragment.j0 k a1 (decide (a1 > 65535)) a0_0 a0_1 a0_2 a0_3 a0_4 a0_5 a0_6 a0_7 a0_8 l0_9 l0_10)) else (impl_Fragment.j0 k a1 true a0_0 a0_1 a0_2 a0_3 a0_4 a0_5 a0_6 a0_7 a0_8 l0_9 l0_10))
theorem impl_Fragment.mono_l : ∀ k, (∀ y0 y1 y2 y3 y4 y5 y6 y7 y8 y9 y10 y11 y12, LeO (impl_Fragment.j0 k y0 y1 y2 y3 y4 y5 y6 y7 y8 y9 y10 y11 y12) (impl_Fragment.j0 (k + 1) y0 y1 y2 y3 y4 y5 y6 y7 y8 y9 y10 y11 y12)) ∧ (∀ y0 y1 y2 y3 y4 y5 y6 y7 y8 y9 y10 y11 y12, LeO (impl_Fragment.j1 k y0 y1 y2 y3 y4 y5 y6 y7 y8 y9 y10 y11 y12) (impl_Fragment.j1 (k + 1) y0 y1 y2 y3 y4 y5 y6 y7 y8 y9 y10 y11 y12)) ∧ (∀ y0 y1 y2 y3 y4 y5 y6 y7 y8 y9 y10 y11 y12 y13, LeO (impl_Fragment.l0 k y0 y1 y2 y3 y4 y5 y6 y7 y8 y9 y10 y11 y12 y13) (impl_Fragment.l0 (k + 1) y0 y1 y2 y3 y4 y5 y6 y7 y8 y9 y10 y11 y12 y13))
  | 0 => ⟨fun _ _ _ _ _ _ _ _ _ _ _ _ _ r h => by simp [impl_Fragment.j0] at h, fun _ _ _ _ _ _ _ _ _ _ _ _ _ r h => by simp [impl_Fragment.j1] at h, fun _ _ _ _ _ _ _ _ _ _ _ _ _ _ r h => by simp [impl_Fragment.l0] at h⟩
  | k + 1 => by
    obtain ⟨ih0, ih1, ih2⟩ := impl_Fragment.mono_l k
    refine ⟨?_, ?_, ?_⟩
    · intro y0 y1 y2 y3 y4 y5 y6 y7 y8 y9 y10 y11 y12
      unfold impl_Fragment.j0
      repeat' first
      | (with_reducible exact ih0 _ _ _ _ _ _ _ _ _ _ _ _ _)
      | (with_reducible exact ih1 _ _ _ _ _ _ _ _ _ _ _ _ _)
      | (with_reducible exact ih2 _ _ _ _ _ _ _ _ _ _ _ _ _ _)
      | (with_reducible exact LeO.refl _)
      | (with_reducible exact LeO.none _)
      | (with_reducible refine LeO.ite ?_ ?_)
      | (with_reducible refine LeO.bind ?_ (fun _ => ?_))
      | exact ih0 _ _ _ _ _ _ _ _ _ _ _ _ _
      | exact ih1 _ _ _ _ _ _ _ _ _ _ _ _ _
      | exact ih2 _ _ _ _ _ _ _ _ _ _ _ _ _ _
      | exact LeO.none _
      | refine LeO.ite ?_ ?_
      | refine LeO.bind ?_ (fun _ => ?_)
    · intro y0 y1 y2 y3 y4 y5 y6 y7 y8 y9 y10 y11 y12
      unfold impl_Fragment.j1
      repeat' first
      | (with_reducible exact ih0 _ _ _ _ _ _ _ _ _ _ _ _ _)
      | (with_reducible exact ih1 _ _ _ _ _ _ _ _ _ _ _ _ _)
      | (with_reducible exact ih2 _ _ _ _ _ _ _ _ _ _ _ _ _ _)
      | (with_reducible exact LeO.refl _)
      | (with_reducible exact LeO.none _)
      | (with_reducible refine LeO.ite ?_ ?_)
      | (with_reducible refine LeO.bind ?_ (fun _ => ?_))
      | exact ih0 _ _ _ _ _ _ _ _ _ _ _ _ _
      | exact ih1 _ _ _ _ _ _ _ _ _ _ _ _ _
      | exact ih2 _ _ _ _ _ _ _ _ _ _ _ _ _ _
      | exact LeO.none _
      | refine LeO.ite ?_ ?_
      | refine LeO.bind ?_ (fun _ => ?_)
    · intro y0 y1 y2 y3 y4 y5 y6 y7 y8 y9 y10 y11 y12 y13
      unfold impl_Fragment.l0
      repeat' first
      | (with_reducible exact ih0 _ _ _ _ _ _ _ _ _ _ _ _ _)
      | (with_reducible exact ih1 _ _ _ _ _ _ _ _ _ _ _ _ _)
      | (with_reducible exact ih2 _ _ _ _ _ _ _ _ _ _ _ _ _ _)
      | (with_reducible exact LeO.refl _)
      | (with_reducible exact LeO.none _)
      | (with_reducible refine LeO.ite ?_ ?_)
      | (with_reducible refine LeO.bind ?_ (fun _ => ?_))
      | exact ih0 _ _ _ _ _ _ _ _ _ _ _ _ _
      | exact ih1 _ _ _ _ _ _ _ _ _ _ _ _ _
      | exact ih2 _ _ _ _ _ _ _ _ _ _ _ _ _ _
      | exact LeO.none _
      | refine LeO.ite ?_ ?_
      | refine LeO.bind ?_ (fun _ => ?_)
theorem impl_Fragment.mono : ∀ a0 a1 a2 a3 a4 a5 a6 a7 a8 a9 a10 a11 k, LeO (impl_Fragment.f k a0 a1 a2 a3 a4 a5 a6 a7 a8 a9 a10 a11) (impl_Fragment.f (k + 1) a0 a1 a2 a3 a4 a5 a6 a7 a8 a9 a10 a11) := by
  intro a0 a1 a2 a3 a4 a5 a6 a7 a8 a9 a10 a11 k
  obtain ⟨ih0, ih1, ih2⟩ := impl_Fragment.mono_l k
  unfold impl_Fragment.f
  repeat' first
      | (with_reducible exact ih0 _ _ _ _ _ _ _ _ _ _ _ _ _)
      | (with_reducible exact ih1 _ _ _ _ _ _ _ _ _ _ _ _ _)
      | (with_reducible exact ih2 _ _ _ _ _ _ _ _ _ _ _ _ _ _)
      | (with_reducible exact LeO.refl _)
      | (with_reducible exact LeO.none _)
      | (with_reducible refine LeO.ite ?_ ?_)
      | (with_reducible refine LeO.bind ?_ (fun _ => ?_))
      | exact ih0 _ _ _ _ _ _ _ _ _ _ _ _ _
      | exact ih1 _ _ _ _ _ _ _ _ _ _ _ _ _
      | exact ih2 _ _ _ _ _ _ _ _ _ _ _ _ _ _
      | exact LeO.none _
      | refine LeO.ite ?_ ?_
      | refine LeO.bind ?_ (fun _ => ?_)
set_option maxHeartbeats 60000000 in
set_option maxRecDepth 100000 in
theorem impl_Fragment.calls (k : Nat) (a0_0 : Int) (a0_1 : Int) (a0_2 : Bool) (a0_3 : Bool) (a0_4 : Int) (a0_5 : Int) (a0_6 : Int) (a0_7 : Int) (a0_8 : Int) (A0_9 : Option Addr) (c0_9 : Nat) (l0_9 : List Int) (A0_10 : Option Addr) (c0_10 : Nat) (l0_10 : List Int) (a1 : Int) (r1 : List (S29)) (r2 : Int) (w : World) (hr0_9 : Kd.C (Kd.int .u8) w A0_9 l0_9.length l0_9) (hc0_9 : l0_9.length ≤ c0_9) (hr0_10 : Kd.C (Kd.int .u8) w A0_10 l0_10.length l0_10) (hc0_10 : l0_10.length ≤ c0_10) (h : impl_Fragment.f k a0_0 a0_1 a0_2 a0_3 a0_4 a0_5 a0_6 a0_7 a0_8 l0_9 l0_10 a1 = some (r1, r2)) :
    Calls Try.prog 7 #[.agg #[.int .i64 a0_0, .int .i64 a0_1, .bool a0_2, .bool a0_3, .int .i64 a0_4, .int .i64 a0_5, .int .i64 a0_6, .int .i64 a0_7, .int .i64 a0_8, .slice A0_9 l0_9.length c0_9, .slice A0_10 l0_10.length c0_10], .int .i64 a1] w fun e w' => ∃ v0_ : Value, e = .returned (.tuple #[v0_, .int .i64 r2]) ∧ Kd.S kP 29 w' w.heap.size (fun k_ => (w.heap.size ≤ k_)) v0_ r1 ∧ Below w.heap.size w w' := by
  have hu29 := Try.underlying29
  have HR0_9 := Aside0.mk hr0_9
  have HC0_9 := Aside0.mk hc0_9
  clear hr0_9 hc0_9
  have HR0_10 := Aside0.mk hr0_10
  have HC0_10 := Aside0.mk hc0_10
  clear hr0_10 hc0_10
  have HB := Aside0.mk (Below.refl w.heap.size w)
  have H : ((impl_codeIP.f a0_0 a0_1 a0_2 a0_3 a0_4 a0_5 a0_6 a0_7 a0_8 l0_9 l0_10).bind fun t292 => (if t292 = 0 then (if a1 < 68 then (impl_Fragment.j0 k a1 true a0_0 a0_1 a0_2 a0_3 a0_4 a0_5 a0_6 a0_7 a0_8 l0_9 l0_10) else (impl_Fragment.j0 k a1 (decide (a1 > 65535)) a0_0 a0_1 a0_2 a0_3 a0_4 a0_5 a0_6 a0_7 a0_8 l0_9 l0_10)) else (impl_Fragment.j0 k a1 true a0_0 a0_1 a0_2 a0_3 a0_4 a0_5 a0_6 a0_7 a0_8 l0_9 l0_10))) = some (r1, r2) := h
  clear h
  have HC3 := Aside0.mk H
  clear H
  go_enter Try.func7, Try.ntmps7
  go_upto_region 1 with (first | ((with_reducible refine gate_dst (N := 2) rfl ?_); refine box_event ?hg (N := 2) ?hd (cs := #[.int .i64 a0_0, .int .i64 a0_1, .bool a0_2, .bool a0_3, .int .i64 a0_4, .int .i64 a0_5, .int .i64 a0_6, .int .i64 a0_7, .int .i64 a0_8, .slice A0_9 l0_9.length c0_9, .slice A0_10 l0_10.length c0_10]) (t := 29) ?hr ?_; (case hd => rfl); (case hg => rfl); (case hr => first | (go_simp; done) | (go_simp; rfl)); intro gb291 hg w1001 hbox hb; have n0_ := Aside0.mk (below_step wB hb); have n1_ := Aside0.mk (hbox); have n2_ := Aside0.mk ((by rw [hg]; exact (below_size wB) : w.heap.size ≤ gb291)); have n3_ := Aside0.mk ((by rw [hg]; exact (below_size wB) : w.heap.size ≤ gb291)); clear HB; have HB := n0_; have BK291 := n1_; have GW291 := n2_; have GE291 := n3_; clear n0_ n1_ n2_ n3_; clear hb hbox hg))
  (try simp only [Act.put, List.setIfInBounds_toArray, List.set_cons_zero, List.set_cons_succ])
  go_cut [22] (fun v22 wc => ∃ (kq : Nat) (x22_2 : Bool), v22 = .bool x22_2 ∧ Aside0 (impl_Fragment.j0 kq a1 x22_2 a0_0 a0_1 a0_2 a0_3 a0_4 a0_5 a0_6 a0_7 a0_8 l0_9 l0_10 = some (r1, r2)) ∧ Aside0 (kq ≤ k) ∧ Aside0 (wc.heap[gb291]? = some (.cells #[.int .i64 a0_0, .int .i64 a0_1, .bool a0_2, .bool a0_3, .int .i64 a0_4, .int .i64 a0_5, .int .i64 a0_6, .int .i64 a0_7, .int .i64 a0_8, (.slice A0_9 l0_9.length c0_9), (.slice A0_10 l0_10.length c0_10)] 29 (0, 0))) ∧ Aside0 (Below w.heap.size w wc))
  case first =>
    have H := HC3.out
    clear HC3
    replace H := Option.bind_eq_some_iff.mp H
    obtain ⟨t292, A10020, H⟩ := H
    replace H : (if t292 = 0 then (if a1 < 68 then (impl_Fragment.j0 k a1 true a0_0 a0_1 a0_2 a0_3 a0_4 a0_5 a0_6 a0_7 a0_8 l0_9 l0_10) else (impl_Fragment.j0 k a1 (decide (a1 > 65535)) a0_0 a0_1 a0_2 a0_3 a0_4 a0_5 a0_6 a0_7 a0_8 l0_9 l0_10)) else (impl_Fragment.j0 k a1 true a0_0 a0_1 a0_2 a0_3 a0_4 a0_5 a0_6 a0_7 a0_8 l0_9 l0_10)) = some (r1, r2) := H
    have A1002 := Aside0.mk A10020
    clear A10020
    by_cases c1003 : t292 = 0
    · rw [if_pos c1003] at H
      have c1003b0 : (t292 == 0) = true := beq_iff_eq.mpr c1003
      have c1003b1 : (t292 != 0) = false := bne_eq_false_iff_eq.mpr c1003
      clear c1003
      (first | rw [c1003b0] | (simp only [i64_w, i32_w]; rw [c1003b0]) | skip)
      by_cases c1004 : a1 < 68
      · rw [if_pos c1004] at H
        have c1004b0 : decide (a1 < 68) = true := decide_eq_true c1004
        clear c1004
        have H' := Aside0.mk H
        clear H
        obtain ⟨⟨hcz2001_0, hcz2001_1, hcz2001_2, hcz2001_3, hcz2001_4, hcz2001_5, hcz2001_6, hcz2001_7, hcz2001_8, hcz2001_9, hcz2001_10⟩, hfz2001_0, hfz2001_1, hfz2001_2, hfz2001_3, hfz2001_4, hfz2001_5, hfz2001_6, hfz2001_7, hfz2001_8, hfz2001_9, hfz2001_10⟩ := cells11 BK291.out
        go_wp2_with (first | ((with_reducible refine gate_callee (f := 19) rfl ?_); refine goesL_ (some 13) rfl rfl Try.func19 (by kernel_rfl) rfl #[.agg #[.int .i64 a0_0, .int .i64 a0_1, .bool a0_2, .bool a0_3, .int .i64 a0_4, .int .i64 a0_5, .int .i64 a0_6, .int .i64 a0_7, .int .i64 a0_8, .slice A0_9 l0_9.length c0_9, .slice A0_10 l0_10.length c0_10]] rfl wT ?_; (with_reducible refine (impl_codeIP.calls a0_0 a0_1 a0_2 a0_3 a0_4 a0_5 a0_6 a0_7 a0_8 _ _ l0_9 _ _ l0_10 t292 _ ?side1 ?side2 ?side3 ?side4 A1002.out).mono ?_); (case side1 => exact Kd.C_below HR0_9.out wB); (case side2 => exact HC0_9.out); (case side3 => exact Kd.C_below HR0_10.out wB); (case side4 => exact HC0_10.out); rintro e w2002 ⟨rfl, hb⟩; refine ⟨_, rfl, ?_⟩; have n0_ := Aside0.mk (blk_below (Bh BK291) hb); have n1_ := Aside0.mk (below_step wB hb); clear BK291; clear HB; have BK291 := n0_; have HB := n1_; clear n0_ n1_; (try clear hb); (try clear hb2); (try clear hk); (try clear hi)))
        go_meet
        case rel => exact ⟨_, (true), (by first | rfl | (simp; done) | (simp [*]; done)), H', ⟨by first | omega | exact Nat.le_refl _⟩, ⟨Bh BK291⟩, ⟨wB⟩⟩
      · rw [if_neg c1004] at H
        have c1004b0 : decide (a1 < 68) = false := decide_eq_false c1004
        clear c1004
        have H' := Aside0.mk H
        clear H
        obtain ⟨⟨hcz2001_0, hcz2001_1, hcz2001_2, hcz2001_3, hcz2001_4, hcz2001_5, hcz2001_6, hcz2001_7, hcz2001_8, hcz2001_9, hcz2001_10⟩, hfz2001_0, hfz2001_1, hfz2001_2, hfz2001_3, hfz2001_4, hfz2001_5, hfz2001_6, hfz2001_7, hfz2001_8, hfz2001_9, hfz2001_10⟩ := cells11 BK291.out
        go_wp2_with (first | ((with_reducible refine gate_callee (f := 19) rfl ?_); refine goesL_ (some 13) rfl rfl Try.func19 (by kernel_rfl) rfl #[.agg #[.int .i64 a0_0, .int .i64 a0_1, .bool a0_2, .bool a0_3, .int .i64 a0_4, .int .i64 a0_5, .int .i64 a0_6, .int .i64 a0_7, .int .i64 a0_8, .slice A0_9 l0_9.length c0_9, .slice A0_10 l0_10.length c0_10]] rfl wT ?_; (with_reducible refine (impl_codeIP.calls a0_0 a0_1 a0_2 a0_3 a0_4 a0_5 a0_6 a0_7 a0_8 _ _ l0_9 _ _ l0_10 t292 _ ?side1 ?side2 ?side3 ?side4 A1002.out).mono ?_); (case side1 => exact Kd.C_below HR0_9.out wB); (case side2 => exact HC0_9.out); (case side3 => exact Kd.C_below HR0_10.out wB); (case side4 => exact HC0_10.out); rintro e w2002 ⟨rfl, hb⟩; refine ⟨_, rfl, ?_⟩; have n0_ := Aside0.mk (blk_below (Bh BK291) hb); have n1_ := Aside0.mk (below_step wB hb); clear BK291; clear HB; have BK291 := n0_; have HB := n1_; clear n0_ n1_; (try clear hb); (try clear hb2); (try clear hk); (try clear hi)))
        go_meet
        case rel => exact ⟨_, (decide (a1 > 65535)), (by first | rfl | (simp; done) | (simp [*]; done)), H', ⟨by first | omega | exact Nat.le_refl _⟩, ⟨Bh BK291⟩, ⟨wB⟩⟩
    · rw [if_neg c1003] at H
      have c1003b0 : (t292 == 0) = false := beq_eq_false_iff_ne.mpr c1003
      have c1003b1 : (t292 != 0) = true := bne_iff_ne.mpr c1003
      (first | rw [c1003b0] | (simp only [i64_w, i32_w]; rw [c1003b0]) | skip)
      have H' := Aside0.mk H
      clear H
      obtain ⟨⟨hcz2001_0, hcz2001_1, hcz2001_2, hcz2001_3, hcz2001_4, hcz2001_5, hcz2001_6, hcz2001_7, hcz2001_8, hcz2001_9, hcz2001_10⟩, hfz2001_0, hfz2001_1, hfz2001_2, hfz2001_3, hfz2001_4, hfz2001_5, hfz2001_6, hfz2001_7, hfz2001_8, hfz2001_9, hfz2001_10⟩ := cells11 BK291.out
      go_wp2_with (first | ((with_reducible refine gate_callee (f := 19) rfl ?_); refine goesL_ (some 13) rfl rfl Try.func19 (by kernel_rfl) rfl #[.agg #[.int .i64 a0_0, .int .i64 a0_1, .bool a0_2, .bool a0_3, .int .i64 a0_4, .int .i64 a0_5, .int .i64 a0_6, .int .i64 a0_7, .int .i64 a0_8, .slice A0_9 l0_9.length c0_9, .slice A0_10 l0_10.length c0_10]] rfl wT ?_; (with_reducible refine (impl_codeIP.calls a0_0 a0_1 a0_2 a0_3 a0_4 a0_5 a0_6 a0_7 a0_8 _ _ l0_9 _ _ l0_10 t292 _ ?side1 ?side2 ?side3 ?side4 A1002.out).mono ?_); (case side1 => exact Kd.C_below HR0_9.out wB); (case side2 => exact HC0_9.out); (case side3 => exact Kd.C_below HR0_10.out wB); (case side4 => exact HC0_10.out); rintro e w2002 ⟨rfl, hb⟩; refine ⟨_, rfl, ?_⟩; have n0_ := Aside0.mk (blk_below (Bh BK291) hb); have n1_ := Aside0.mk (below_step wB hb); clear BK291; clear HB; have BK291 := n0_; have HB := n1_; clear n0_ n1_; (try clear hb); (try clear hb2); (try clear hk); (try clear hi)))
      go_meet
      case rel => exact ⟨_, (true), (by first | rfl | (simp; done) | (simp [*]; done)), H', ⟨by first | omega | exact Nat.le_refl _⟩, ⟨Bh BK291⟩, ⟨wB⟩⟩
  case rest =>
    clear HC3
    try clear c0
    try clear c1003
    try clear c1003b0
    try clear c1003b1
    try clear c1004
    try clear c1004b0
    try clear hcz2001_0 hcz2001_1 hcz2001_10 hcz2001_2 hcz2001_3 hcz2001_4 hcz2001_5 hcz2001_6 hcz2001_7 hcz2001_8 hcz2001_9 hfz2001_0 hfz2001_1 hfz2001_10 hfz2001_2 hfz2001_3 hfz2001_4 hfz2001_5 hfz2001_6 hfz2001_7 hfz2001_8 hfz2001_9
    obtain ⟨kq, x22_2, rfl, HA, HJ2, BK291, HB⟩ := hcut
    cases kq with
    | zero => exact absurd HA.out (by simp [impl_Fragment.j0])
    | succ kj2 =>
      have H := HA.out
      clear HA
      simp only [impl_Fragment.j0] at H
      by_cases c1005 : x22_2 = true
      · subst c1005
        have H1 : (some (([] : List (S29)), 1)) = some (r1, r2) := by rw [if_pos rfl] at H; exact H
        clear H
        have H := H1
        clear H1
        simp only [Option.some.injEq, Prod.mk.injEq] at H
        obtain ⟨rfl, rfl⟩ := H
        go_wp2
        go_ret2
        exact ⟨_, by first | rfl | (simp [errW_none, errW_some] <;> rfl) | (simp [*, errW_none, errW_some] <;> rfl), by first | exact Kd.S_nil _ _ _ _ _ | exact Kd.V_nil _ _ _ _ _ | exact Kd.Q_nil _ _ _ _ _ | exact Kd.R_nil _ _ _ _ _, wB⟩
      · replace c1005 := Bool.eq_false_iff.mpr c1005
        subst c1005
        have H1 : ((impl_PacketSize.f a0_0 a0_1 a0_2 a0_3 a0_4 a0_5 a0_6 a0_7 a0_8 l0_9 l0_10).bind fun t293 => (if t293 ≤ a1 then ((impl_ownPacket.f a0_0 a0_1 a0_2 a0_3 a0_4 a0_5 a0_6 a0_7 a0_8 l0_9 l0_10).bind fun bt294 => (some ((([(⟨bt294.1, bt294.2.1, bt294.2.2.1, bt294.2.2.2.1, bt294.2.2.2.2.1, bt294.2.2.2.2.2.1, bt294.2.2.2.2.2.2.1, bt294.2.2.2.2.2.2.2.1, bt294.2.2.2.2.2.2.2.2.1, bt294.2.2.2.2.2.2.2.2.2.1, bt294.2.2.2.2.2.2.2.2.2.2⟩ : S29)] : List (S29))), 0))) else (if a0_2 = true then (impl_Fragment.j1 kj2 (wrap64 ((wrap64 (a1 - 20)) - (l0_9.length : Int))) true a0_0 a0_1 a0_2 a0_3 a0_4 a0_5 a0_6 a0_7 a0_8 l0_9 l0_10) else (impl_Fragment.j1 kj2 (wrap64 ((wrap64 (a1 - 20)) - (l0_9.length : Int))) (decide ((wrap64 ((wrap64 (a1 - 20)) - (l0_9.length : Int))) < 8)) a0_0 a0_1 a0_2 a0_3 a0_4 a0_5 a0_6 a0_7 a0_8 l0_9 l0_10)))) = some (r1, r2) := by rw [if_neg (show ¬ (false = true) by decide)] at H; exact H
        clear H
        have H := H1
        clear H1
        replace H := Option.bind_eq_some_iff.mp H
        obtain ⟨t293, A10060, H⟩ := H
        replace H : (if t293 ≤ a1 then ((impl_ownPacket.f a0_0 a0_1 a0_2 a0_3 a0_4 a0_5 a0_6 a0_7 a0_8 l0_9 l0_10).bind fun bt294 => (some ((([(⟨bt294.1, bt294.2.1, bt294.2.2.1, bt294.2.2.2.1, bt294.2.2.2.2.1, bt294.2.2.2.2.2.1, bt294.2.2.2.2.2.2.1, bt294.2.2.2.2.2.2.2.1, bt294.2.2.2.2.2.2.2.2.1, bt294.2.2.2.2.2.2.2.2.2.1, bt294.2.2.2.2.2.2.2.2.2.2⟩ : S29)] : List (S29))), 0))) else (if a0_2 = true then (impl_Fragment.j1 kj2 (wrap64 ((wrap64 (a1 - 20)) - (l0_9.length : Int))) true a0_0 a0_1 a0_2 a0_3 a0_4 a0_5 a0_6 a0_7 a0_8 l0_9 l0_10) else (impl_Fragment.j1 kj2 (wrap64 ((wrap64 (a1 - 20)) - (l0_9.length : Int))) (decide ((wrap64 ((wrap64 (a1 - 20)) - (l0_9.length : Int))) < 8)) a0_0 a0_1 a0_2 a0_3 a0_4 a0_5 a0_6 a0_7 a0_8 l0_9 l0_10))) = some (r1, r2) := H
        have A1006 := Aside0.mk A10060
        clear A10060
        by_cases c1007 : t293 ≤ a1
        · rw [if_pos c1007] at H
          have c1007b0 : decide (t293 ≤ a1) = true := decide_eq_true c1007
          clear c1007
          replace H := Option.bind_eq_some_iff.mp H
          obtain ⟨⟨t294, t295, t296, t297, t298, t299, t300, t301, t302, t303, t306⟩, A10080, H⟩ := H
          replace H : (some ((([(⟨t294, t295, t296, t297, t298, t299, t300, t301, t302, t303, t306⟩ : S29)] : List (S29))), 0)) = some (r1, r2) := H
          have A1008 := Aside0.mk A10080
          clear A10080
          obtain ⟨y309, hy309⟩ : ∃ y_ : List (S29), y_ = (([(⟨t294, t295, t296, t297, t298, t299, t300, t301, t302, t303, t306⟩ : S29)] : List (S29))) := ⟨_, rfl⟩
          replace H : (some (y309, 0)) = some (r1, r2) := by first | (rw [hy309]; with_reducible exact H) | (have H2_ := (Option.bind_some _ _).symm.trans H; rw [hy309]; with_reducible exact H2_) | (have H2_ := (Option.bind_some _ _).symm.trans H; with_reducible exact H2_) | with_reducible exact H | (rw [hy309]; exact H) | exact H
          have Ny309 := Aside0.mk hy309
          clear hy309
          simp only [Option.some.injEq, Prod.mk.injEq] at H
          obtain ⟨rfl, rfl⟩ := H
          obtain ⟨⟨hcz2001_0, hcz2001_1, hcz2001_2, hcz2001_3, hcz2001_4, hcz2001_5, hcz2001_6, hcz2001_7, hcz2001_8, hcz2001_9, hcz2001_10⟩, hfz2001_0, hfz2001_1, hfz2001_2, hfz2001_3, hfz2001_4, hfz2001_5, hfz2001_6, hfz2001_7, hfz2001_8, hfz2001_9, hfz2001_10⟩ := cells11 BK291.out
          go_wp2_with (first | ((with_reducible refine gate_callee (f := 20) rfl ?_); refine goesL_ (some 24) rfl rfl Try.func20 (by kernel_rfl) rfl #[.agg #[.int .i64 a0_0, .int .i64 a0_1, .bool a0_2, .bool a0_3, .int .i64 a0_4, .int .i64 a0_5, .int .i64 a0_6, .int .i64 a0_7, .int .i64 a0_8, .slice A0_9 l0_9.length c0_9, .slice A0_10 l0_10.length c0_10]] rfl wT ?_; (with_reducible refine (impl_PacketSize.calls a0_0 a0_1 a0_2 a0_3 a0_4 a0_5 a0_6 a0_7 a0_8 _ _ l0_9 _ _ l0_10 t293 _ ?side1 ?side2 ?side3 ?side4 A1006.out).mono ?_); (case side1 => exact Kd.C_below HR0_9.out wB); (case side2 => exact HC0_9.out); (case side3 => exact Kd.C_below HR0_10.out wB); (case side4 => exact HC0_10.out); rintro e w2002 ⟨rfl, hb⟩; refine ⟨_, rfl, ?_⟩; have n0_ := Aside0.mk (blk_below (Bh BK291) hb); have n1_ := Aside0.mk (below_step wB hb); clear BK291; clear HB; have BK291 := n0_; have HB := n1_; clear n0_ n1_; (try clear hb); (try clear hb2); (try clear hk); (try clear hi); obtain ⟨⟨hcz2003_0, hcz2003_1, hcz2003_2, hcz2003_3, hcz2003_4, hcz2003_5, hcz2003_6, hcz2003_7, hcz2003_8, hcz2003_9, hcz2003_10⟩, hfz2003_0, hfz2003_1, hfz2003_2, hfz2003_3, hfz2003_4, hfz2003_5, hfz2003_6, hfz2003_7, hfz2003_8, hfz2003_9, hfz2003_10⟩ := cells11 BK291.out) | ((with_reducible refine gate_callee (f := 21) rfl ?_); refine goesL_ (some 28) rfl rfl Try.func21 (by kernel_rfl) rfl #[.agg #[.int .i64 a0_0, .int .i64 a0_1, .bool a0_2, .bool a0_3, .int .i64 a0_4, .int .i64 a0_5, .int .i64 a0_6, .int .i64 a0_7, .int .i64 a0_8, .slice A0_9 l0_9.length c0_9, .slice A0_10 l0_10.length c0_10]] rfl wT ?_; (with_reducible refine (impl_ownPacket.calls a0_0 a0_1 a0_2 a0_3 a0_4 a0_5 a0_6 a0_7 a0_8 _ _ l0_9 _ _ l0_10 t294 t295 t296 t297 t298 t299 t300 t301 t302 t303 t306 _ ?side1 ?side2 ?side3 ?side4 A1008.out).mono ?_); (case side1 => exact Kd.C_below HR0_9.out wB); (case side2 => exact HC0_9.out); (case side3 => exact Kd.C_below HR0_10.out wB); (case side4 => exact HC0_10.out); rintro e w2004 ⟨v304, v307, rfl, ho0, ho1, hb⟩; refine ⟨_, rfl, ?_⟩; have n0_ := Aside0.mk (Kd.R_lower (Kd.R_newM (M := fun k_ => (w.heap.size ≤ k_)) ho0 (below_size wB) (fun k_ h_ => h_)) (below_size wB)); have n1_ := Aside0.mk (Kd.R_lower (Kd.R_newM (M := fun k_ => (w.heap.size ≤ k_)) ho1 (below_size wB) (fun k_ h_ => h_)) (below_size wB)); have n2_ := Aside0.mk (blk_below (Bh BK291) hb); have n3_ := Aside0.mk (below_step wB hb); clear BK291; clear HB; have HO305 := n0_; have HO308 := n1_; have BK291 := n2_; have HB := n3_; clear n0_ n1_ n2_ n3_; (try clear hb); (try clear hb2); (try clear hk); (try clear hi); (try clear ho0); (try clear ho1); obtain ⟨Ao2005, co2005, eo2005⟩ := Kd.R_slice HO305.out; subst eo2005; obtain ⟨Ao2006, co2006, eo2006⟩ := Kd.R_slice HO308.out; subst eo2006) | ((with_reducible refine gate_dst (N := 29) rfl ?_); refine Kd.S_lits kP (w0 := w) w.heap.size 29 ?hg (N := 29) ?hd (xs := ([(⟨t294, t295, t296, t297, t298, t299, t300, t301, t302, t303, t306⟩ : S29)] : List (S29))) (inner := [.int .i64 t294, .int .i64 t295, .bool t296, .bool t297, .int .i64 t298, .int .i64 t299, .int .i64 t300, .int .i64 t301, .int .i64 t302, .slice Ao2005 t303.length co2005, .slice Ao2006 t306.length co2006]) (ok := (fun k_ => (w.heap.size ≤ k_) ∧ k_ ≠ gb291)) (fun j_ k_ => j_ = 0 ∧ (some k_ = (.slice Ao2005 t303.length co2005 : Value).ownBlock ∨ some k_ = (.slice Ao2006 t306.length co2006 : Value).ownBlock)) ?hr ?hl ?hp ?hap ?hk ((show ∀ k_, w2004.heap.size ≤ k_ → (fun k_ => (w.heap.size ≤ k_) ∧ k_ ≠ gb291) k_ from fun k_ hk => ⟨(Nat.le_trans (below_size wB) hk), Kd.freshB (Bh BK291) k_ hk⟩) _ (Nat.le_refl _)) ?hB ?hs ?hm ?_; (case hd => rfl); (case hg => rfl); (case hr => first | (go_simp; done) | (go_simp; rfl)); (case hl => rfl); (case hap => exact fun i_ j_ k_ h1_ h2_ => h1_.1.trans h2_.1.symm); (case hB => exact wB); (case hs => exact below_size wB); (case hm => simp); (case hp => exact lit_one (okj := fun (j_ k_ : Nat) => j_ = 0 ∧ (some k_ = (.slice Ao2005 t303.length co2005 : Value).ownBlock ∨ some k_ = (.slice Ao2006 t306.length co2006 : Value).ownBlock)) (d := kP) ⟨k29_mkM _ _ _ (⟨t294, t295, t296, t297, t298, t299, t300, t301, t302, t303, t306⟩ : S29) (Kd.R_mono (Kd.R_tight rfl HO305.out) (fun _ hk => ⟨rfl, Or.inl hk⟩)) (Kd.R_mono (Kd.R_tight rfl HO308.out) (fun _ hk => ⟨rfl, Or.inr hk⟩)), fun k_ e_ e2_ => (HO305.out.1 k_ e_).2 (Eq.symm e2_)⟩); (case hk => exact fun j_ k_ hk => hk.2.elim (fun e_ => ((Kd.R_mono (ok' := (fun k_ => (w.heap.size ≤ k_) ∧ k_ ≠ gb291)) (Kd.R_types (HO305.out) BK291.out (by decide)) (fun k_ hk => ⟨hk.1.1, hk.2⟩))).1 k_ (Eq.symm e_)) (fun e_ => ((Kd.R_mono (ok' := (fun k_ => (w.heap.size ≤ k_) ∧ k_ ≠ gb291)) (Kd.R_types (HO308.out) BK291.out (by decide)) (fun k_ hk => ⟨hk.1.1, hk.2⟩))).1 k_ (Eq.symm e_))); intro v310 w2007 ho2008 hb hg_ hnew_; clear hnew_; (first | rw [← Ny309.out] at ho2008 | (simp only [Int.reduceToNat] at ho2008; rw [← Ny309.out] at ho2008)); have n0_ := Aside0.mk ho2008; have n1_ := Aside0.mk (blk_grown (Bh BK291) hg_ (by simp)); have n2_ := Aside0.mk hb; clear BK291; clear HB; clear HO305; clear HO308; have HO311 := n0_; have BK291 := n1_; have HB := n2_; clear n0_ n1_ n2_; clear hg_; clear hb ho2008))
          go_ret2
          exact ⟨_, by first | rfl | (simp [errW_none, errW_some] <;> rfl) | (simp [*, errW_none, errW_some] <;> rfl), by (with_reducible repeat (first | apply Kd.S_alloc | apply Kd.S_drewN | apply Kd.S_drew)); exact Kd.S_mono HO311.out (fun _ hk => hk.1), wB⟩
        · rw [if_neg c1007] at H
          have c1007b0 : decide (t293 ≤ a1) = false := decide_eq_false c1007
          clear c1007
          have HC1009 := Aside0.mk H
          clear H
          obtain ⟨⟨hcz2001_0, hcz2001_1, hcz2001_2, hcz2001_3, hcz2001_4, hcz2001_5, hcz2001_6, hcz2001_7, hcz2001_8, hcz2001_9, hcz2001_10⟩, hfz2001_0, hfz2001_1, hfz2001_2, hfz2001_3, hfz2001_4, hfz2001_5, hfz2001_6, hfz2001_7, hfz2001_8, hfz2001_9, hfz2001_10⟩ := cells11 BK291.out
          go_upto_region 6 with (first | ((with_reducible refine gate_callee (f := 20) rfl ?_); refine goesL_ (some 24) rfl rfl Try.func20 (by kernel_rfl) rfl #[.agg #[.int .i64 a0_0, .int .i64 a0_1, .bool a0_2, .bool a0_3, .int .i64 a0_4, .int .i64 a0_5, .int .i64 a0_6, .int .i64 a0_7, .int .i64 a0_8, .slice A0_9 l0_9.length c0_9, .slice A0_10 l0_10.length c0_10]] rfl wT ?_; (with_reducible refine (impl_PacketSize.calls a0_0 a0_1 a0_2 a0_3 a0_4 a0_5 a0_6 a0_7 a0_8 _ _ l0_9 _ _ l0_10 t293 _ ?side1 ?side2 ?side3 ?side4 A1006.out).mono ?_); (case side1 => exact Kd.C_below HR0_9.out wB); (case side2 => exact HC0_9.out); (case side3 => exact Kd.C_below HR0_10.out wB); (case side4 => exact HC0_10.out); rintro e w2002 ⟨rfl, hb⟩; refine ⟨_, rfl, ?_⟩; have n0_ := Aside0.mk (blk_below (Bh BK291) hb); have n1_ := Aside0.mk (below_step wB hb); clear BK291; clear HB; have BK291 := n0_; have HB := n1_; clear n0_ n1_; (try clear hb); (try clear hb2); (try clear hk); (try clear hi); obtain ⟨⟨hcz2003_0, hcz2003_1, hcz2003_2, hcz2003_3, hcz2003_4, hcz2003_5, hcz2003_6, hcz2003_7, hcz2003_8, hcz2003_9, hcz2003_10⟩, hfz2003_0, hfz2003_1, hfz2003_2, hfz2003_3, hfz2003_4, hfz2003_5, hfz2003_6, hfz2003_7, hfz2003_8, hfz2003_9, hfz2003_10⟩ := cells11 BK291.out))
          (try simp only [Act.put, List.setIfInBounds_toArray, List.set_cons_zero, List.set_cons_succ])
          go_cut [41] (fun v41 wc => ∃ (kq : Nat) (x41_1008 : Bool), v41 = .bool x41_1008 ∧ Aside0 (impl_Fragment.j1 kq (wrap64 ((wrap64 (a1 - 20)) - (l0_9.length : Int))) x41_1008 a0_0 a0_1 a0_2 a0_3 a0_4 a0_5 a0_6 a0_7 a0_8 l0_9 l0_10 = some (r1, r2)) ∧ Aside0 (kq ≤ kj2) ∧ Aside0 (wc.heap[gb291]? = some (.cells #[.int .i64 a0_0, .int .i64 a0_1, .bool a0_2, .bool a0_3, .int .i64 a0_4, .int .i64 a0_5, .int .i64 a0_6, .int .i64 a0_7, .int .i64 a0_8, (.slice A0_9 l0_9.length c0_9), (.slice A0_10 l0_10.length c0_10)] 29 (0, 0))) ∧ Aside0 (Below w.heap.size w wc))
          case first =>
            have H := HC1009.out
            clear HC1009
            by_cases c2004 : a0_2 = true
            · subst c2004
              have H1 : (impl_Fragment.j1 kj2 (wrap64 ((wrap64 (a1 - 20)) - (l0_9.length : Int))) true a0_0 a0_1 true a0_3 a0_4 a0_5 a0_6 a0_7 a0_8 l0_9 l0_10) = some (r1, r2) := by rw [if_pos rfl] at H; exact H
              clear H
              have H := H1
              clear H1
              have H' := Aside0.mk H
              clear H
              obtain ⟨⟨hcz3001_0, hcz3001_1, hcz3001_2, hcz3001_3, hcz3001_4, hcz3001_5, hcz3001_6, hcz3001_7, hcz3001_8, hcz3001_9, hcz3001_10⟩, hfz3001_0, hfz3001_1, hfz3001_2, hfz3001_3, hfz3001_4, hfz3001_5, hfz3001_6, hfz3001_7, hfz3001_8, hfz3001_9, hfz3001_10⟩ := cells11 BK291.out
              go_wp2
              go_meet
              case rel => exact ⟨_, (true), (by first | rfl | (simp; done) | (simp [*]; done)), H', ⟨by have := HJ2.out; first | omega | exact Nat.le_refl _⟩, ⟨Bh BK291⟩, ⟨wB⟩⟩
            · replace c2004 := Bool.eq_false_iff.mpr c2004
              subst c2004
              have H1 : (impl_Fragment.j1 kj2 (wrap64 ((wrap64 (a1 - 20)) - (l0_9.length : Int))) (decide ((wrap64 ((wrap64 (a1 - 20)) - (l0_9.length : Int))) < 8)) a0_0 a0_1 false a0_3 a0_4 a0_5 a0_6 a0_7 a0_8 l0_9 l0_10) = some (r1, r2) := by rw [if_neg (show ¬ (false = true) by decide)] at H; exact H
              clear H
              have H := H1
              clear H1
              have H' := Aside0.mk H
              clear H
              obtain ⟨⟨hcz3001_0, hcz3001_1, hcz3001_2, hcz3001_3, hcz3001_4, hcz3001_5, hcz3001_6, hcz3001_7, hcz3001_8, hcz3001_9, hcz3001_10⟩, hfz3001_0, hfz3001_1, hfz3001_2, hfz3001_3, hfz3001_4, hfz3001_5, hfz3001_6, hfz3001_7, hfz3001_8, hfz3001_9, hfz3001_10⟩ := cells11 BK291.out
              go_wp2
              go_meet
              case rel => exact ⟨_, (decide ((wrap64 ((wrap64 (a1 - 20)) - (l0_9.length : Int))) < 8)), (by first | rfl | (simp; done) | (simp [*]; done)), H', ⟨by have := HJ2.out; first | omega | exact Nat.le_refl _⟩, ⟨Bh BK291⟩, ⟨wB⟩⟩
          case rest =>
            clear HC1009
            try clear c0
            try clear c1003
            try clear c1003b0
            try clear c1003b1
            try clear c1004
            try clear c1004b0
            try clear c1005
            try clear c1007
            try clear c1007b0
            try clear c2004
            try clear hcz2001_0 hcz2001_1 hcz2001_10 hcz2001_2 hcz2001_3 hcz2001_4 hcz2001_5 hcz2001_6 hcz2001_7 hcz2001_8 hcz2001_9 hfz2001_0 hfz2001_1 hfz2001_10 hfz2001_2 hfz2001_3 hfz2001_4 hfz2001_5 hfz2001_6 hfz2001_7 hfz2001_8 hfz2001_9
            try clear hcz2003_0 hcz2003_1 hcz2003_10 hcz2003_2 hcz2003_3 hcz2003_4 hcz2003_5 hcz2003_6 hcz2003_7 hcz2003_8 hcz2003_9 hfz2003_0 hfz2003_1 hfz2003_10 hfz2003_2 hfz2003_3 hfz2003_4 hfz2003_5 hfz2003_6 hfz2003_7 hfz2003_8 hfz2003_9
            try clear hcz3001_0 hcz3001_1 hcz3001_10 hcz3001_2 hcz3001_3 hcz3001_4 hcz3001_5 hcz3001_6 hcz3001_7 hcz3001_8 hcz3001_9 hfz3001_0 hfz3001_1 hfz3001_10 hfz3001_2 hfz3001_3 hfz3001_4 hfz3001_5 hfz3001_6 hfz3001_7 hfz3001_8 hfz3001_9
            obtain ⟨kq, x41_1008, rfl, HA, HJ1008, BK291, HB⟩ := hcut
            cases kq with
            | zero => exact absurd HA.out (by simp [impl_Fragment.j1])
            | succ kj1008 =>
              have H := HA.out
              clear HA
              simp only [impl_Fragment.j1] at H
              by_cases c2005 : x41_1008 = true
              · subst c2005
                have H1 : (some (([] : List (S29)), 7)) = some (r1, r2) := by rw [if_pos rfl] at H; exact H
                clear H
                have H := H1
                clear H1
                simp only [Option.some.injEq, Prod.mk.injEq] at H
                obtain ⟨rfl, rfl⟩ := H
                go_wp2
                go_ret2
                exact ⟨_, by first | rfl | (simp [errW_none, errW_some] <;> rfl) | (simp [*, errW_none, errW_some] <;> rfl), by first | exact Kd.S_nil _ _ _ _ _ | exact Kd.V_nil _ _ _ _ _ | exact Kd.Q_nil _ _ _ _ _ | exact Kd.R_nil _ _ _ _ _, wB⟩
              · replace c2005 := Bool.eq_false_iff.mpr c2005
                subst c2005
                have H1 : (impl_Fragment.l0 kj1008 ([] : List (S29)) (wrap64 ((wrap64 (Int.tdiv (wrap64 ((wrap64 (a1 - 20)) - (l0_9.length : Int))) 8)) * 8)) 0 a0_0 a0_1 a0_2 a0_3 a0_4 a0_5 a0_6 a0_7 a0_8 l0_9 l0_10) = some (r1, r2) := by rw [if_neg (show ¬ (false = true) by decide)] at H; exact H
                clear H
                have H := H1
                clear H1
                have H' := Aside0.mk H
                clear H
                go_wp2
                go_loopg [7, 9] kj1008 (fun kq v7 v9 w' => ∃ (x7_3 : List (S29)) (x9_3 : Int), v9 = .int .i64 x9_3 ∧ Aside0 (impl_Fragment.l0 kq x7_3 (wrap64 ((wrap64 (Int.tdiv (wrap64 ((wrap64 (a1 - 20)) - (l0_9.length : Int))) 8)) * 8)) x9_3 a0_0 a0_1 a0_2 a0_3 a0_4 a0_5 a0_6 a0_7 a0_8 l0_9 l0_10 = some (r1, r2)) ∧ Aside0 (kq ≤ kj1008) ∧ Aside0 (Kd.S kP 29 w' w.heap.size (fun k_ => (w.heap.size ≤ k_) ∧ k_ ≠ gb291) v7 x7_3) ∧ Aside0 (w'.heap[gb291]? = some (.cells #[.int .i64 a0_0, .int .i64 a0_1, .bool a0_2, .bool a0_3, .int .i64 a0_4, .int .i64 a0_5, .int .i64 a0_6, .int .i64 a0_7, .int .i64 a0_8, (.slice A0_9 l0_9.length c0_9), (.slice A0_10 l0_10.length c0_10)] 29 (0, 0))) ∧ Aside0 (Below w.heap.size w w'))
                case atStart => exact ⟨(([] : List (S29))), (0), (by first | rfl | (simp; done) | (simp [*]; done)), H', ⟨Nat.le_refl _⟩, ⟨by first | exact Kd.S_nil _ _ _ _ _ | exact Kd.V_nil _ _ _ _ _ | exact Kd.Q_nil _ _ _ _ _ | exact Kd.R_nil _ _ _ _ _⟩, ⟨Bh BK291⟩, ⟨wB⟩⟩
                case round =>
                  clear H'
                  try clear c0
                  try clear c1003
                  try clear c1003b0
                  try clear c1003b1
                  try clear c1004
                  try clear c1004b0
                  try clear c1005
                  try clear c1007
                  try clear c1007b0
                  try clear c2004
                  try clear c2005
                  try clear hcz2001_0 hcz2001_1 hcz2001_10 hcz2001_2 hcz2001_3 hcz2001_4 hcz2001_5 hcz2001_6 hcz2001_7 hcz2001_8 hcz2001_9 hfz2001_0 hfz2001_1 hfz2001_10 hfz2001_2 hfz2001_3 hfz2001_4 hfz2001_5 hfz2001_6 hfz2001_7 hfz2001_8 hfz2001_9
                  try clear hcz2003_0 hcz2003_1 hcz2003_10 hcz2003_2 hcz2003_3 hcz2003_4 hcz2003_5 hcz2003_6 hcz2003_7 hcz2003_8 hcz2003_9 hfz2003_0 hfz2003_1 hfz2003_10 hfz2003_2 hfz2003_3 hfz2003_4 hfz2003_5 hfz2003_6 hfz2003_7 hfz2003_8 hfz2003_9
                  try clear hcz3001_0 hcz3001_1 hcz3001_10 hcz3001_2 hcz3001_3 hcz3001_4 hcz3001_5 hcz3001_6 hcz3001_7 hcz3001_8 hcz3001_9 hfz3001_0 hfz3001_1 hfz3001_10 hfz3001_2 hfz3001_3 hfz3001_4 hfz3001_5 hfz3001_6 hfz3001_7 hfz3001_8 hfz3001_9
                  obtain ⟨x7_3, x9_3, rfl, HA, HK3, HO_7, BK291, HB⟩ := hrel
                  cases gk with
                  | zero => exact absurd HA.out (by simp [impl_Fragment.l0])
                  | succ k3 =>
                    have H := HA.out
                    clear HA
                    simp only [impl_Fragment.l0] at H
                    replace H := Option.bind_eq_some_iff.mp H
                    obtain ⟨t313, A30010, H⟩ := H
                    replace H : (if (wrap64 ((l0_10.length : Int) - x9_3)) ≤ (wrap64 ((wrap64 (Int.tdiv (wrap64 ((wrap64 (a1 - 20)) - (l0_9.length : Int))) 8)) * 8)) then (if 0 ≤ x9_3 then (if x9_3 ≤ (l0_10.length : Int) then ((impl_dup.f (l0_10.drop (x9_3 : Int).toNat)).bind fun t317 => (if x7_3.length < 1256584717458 then (some ((x7_3 ++ [(⟨a0_0, a0_1, a0_2, a0_3, wrap64 (a0_4 + x9_3), a0_5, a0_6, a0_7, a0_8, t313, t317⟩ : S29)]), 0)) else (none))) else (none)) else (none)) else (if 0 ≤ x9_3 then (if x9_3 ≤ (wrap64 (x9_3 + (wrap64 ((wrap64 (Int.tdiv (wrap64 ((wrap64 (a1 - 20)) - (l0_9.length : Int))) 8)) * 8)))) then (if (wrap64 (x9_3 + (wrap64 ((wrap64 (Int.tdiv (wrap64 ((wrap64 (a1 - 20)) - (l0_9.length : Int))) 8)) * 8)))) ≤ (l0_10.length : Int) then ((impl_dup.f ((l0_10.take ((wrap64 (x9_3 + (wrap64 ((wrap64 (Int.tdiv (wrap64 ((wrap64 (a1 - 20)) - (l0_9.length : Int))) 8)) * 8)))) : Int).toNat).drop (x9_3 : Int).toNat)).bind fun t324 => (if x7_3.length < 1256584717458 then (impl_Fragment.l0 k3 (x7_3 ++ [(⟨a0_0, a0_1, a0_2, true, wrap64 (a0_4 + x9_3), a0_5, a0_6, a0_7, a0_8, t313, t324⟩ : S29)]) (wrap64 ((wrap64 (Int.tdiv (wrap64 ((wrap64 (a1 - 20)) - (l0_9.length : Int))) 8)) * 8)) (wrap64 (x9_3 + (wrap64 ((wrap64 (Int.tdiv (wrap64 ((wrap64 (a1 - 20)) - (l0_9.length : Int))) 8)) * 8)))) a0_0 a0_1 a0_2 a0_3 a0_4 a0_5 a0_6 a0_7 a0_8 l0_9 l0_10) else (none))) else (none)) else (none)) else (none))) = some (r1, r2) := H
                    have A3001 := Aside0.mk A30010
                    clear A30010
                    by_cases c3002 : (wrap64 ((l0_10.length : Int) - x9_3)) ≤ (wrap64 ((wrap64 (Int.tdiv (wrap64 ((wrap64 (a1 - 20)) - (l0_9.length : Int))) 8)) * 8))
                    · rw [if_pos c3002] at H
                      have c3002b0 : decide ((wrap64 ((l0_10.length : Int) - x9_3)) ≤ (wrap64 ((wrap64 (Int.tdiv (wrap64 ((wrap64 (a1 - 20)) - (l0_9.length : Int))) 8)) * 8))) = true := decide_eq_true c3002
                      clear c3002
                      by_cases c3003 : 0 ≤ x9_3
                      · rw [if_pos c3003] at H
                        have c3003b0 := eq_true c3003
                        have c3003b1 : decide (0 ≤ x9_3) = true := decide_eq_true c3003
                        clear c3003
                        by_cases c3004 : x9_3 ≤ (l0_10.length : Int)
                        · rw [if_pos c3004] at H
                          have c3004b0 := eq_true c3004
                          have c3004b1 : decide (x9_3 ≤ (l0_10.length : Int)) = true := decide_eq_true c3004
                          clear c3004
                          replace H := Option.bind_eq_some_iff.mp H
                          obtain ⟨t317, A30050, H⟩ := H
                          replace H : (if x7_3.length < 1256584717458 then (some ((x7_3 ++ [(⟨a0_0, a0_1, a0_2, a0_3, wrap64 (a0_4 + x9_3), a0_5, a0_6, a0_7, a0_8, t313, t317⟩ : S29)]), 0)) else (none)) = some (r1, r2) := H
                          have A3005 := Aside0.mk A30050
                          clear A30050
                          by_cases c3006 : x7_3.length < 1256584717458
                          · rw [if_pos c3006] at H
                            have LMc3006 := Aside0.mk c3006
                            clear c3006
                            obtain ⟨y320, hy320⟩ : ∃ y_ : List (S29), y_ = (x7_3 ++ [(⟨a0_0, a0_1, a0_2, a0_3, wrap64 (a0_4 + x9_3), a0_5, a0_6, a0_7, a0_8, t313, t317⟩ : S29)]) := ⟨_, rfl⟩
                            replace H : (some (y320, 0)) = some (r1, r2) := by first | (rw [hy320]; with_reducible exact H) | (have H2_ := (Option.bind_some _ _).symm.trans H; rw [hy320]; with_reducible exact H2_) | (have H2_ := (Option.bind_some _ _).symm.trans H; with_reducible exact H2_) | with_reducible exact H | (rw [hy320]; exact H) | exact H
                            have Ny320 := Aside0.mk hy320
                            clear hy320
                            simp only [Option.some.injEq, Prod.mk.injEq] at H
                            obtain ⟨rfl, rfl⟩ := H
                            obtain ⟨⟨hcz4001_0, hcz4001_1, hcz4001_2, hcz4001_3, hcz4001_4, hcz4001_5, hcz4001_6, hcz4001_7, hcz4001_8, hcz4001_9, hcz4001_10⟩, hfz4001_0, hfz4001_1, hfz4001_2, hfz4001_3, hfz4001_4, hfz4001_5, hfz4001_6, hfz4001_7, hfz4001_8, hfz4001_9, hfz4001_10⟩ := cells11 BK291.out
                            go_wp2_with (first | ((with_reducible refine gate_dst (N := 10) rfl ?_); refine box_event ?hg (N := 10) ?hd (cs := #[.int .i64 0, .int .i64 0, .bool false, .bool false, .int .i64 0, .int .i64 0, .int .i64 0, .int .i64 0, .int .i64 0, .slice none 0 0, .slice none 0 0]) (t := 29) ?hr ?_; (case hd => rfl); (case hg => rfl); (case hr => first | (go_simp; done) | (go_simp; rfl)); intro gb312 hg w4002 hbox hb; have n0_ := Aside0.mk (Kd.S_below (Kd.S_elderB (by (with_reducible repeat (first | apply Kd.S_alloc | apply Kd.S_drewN | apply Kd.S_drew)); exact HO_7.out) gb312 (Nat.le_of_eq hg.symm)) hb); have n1_ := Aside0.mk (blk_below (Bh BK291) hb); have n2_ := Aside0.mk (below_step wB hb); have n3_ := Aside0.mk (hbox); have n4_ := Aside0.mk ((by rw [hg]; exact (below_size wB) : w.heap.size ≤ gb312)); have n5_ := Aside0.mk ((by rw [hg]; exact (below_size wB) : w.heap.size ≤ gb312)); have n6_ := Aside0.mk ((by rw [hg]; exact Nat.ne_of_lt (blk_lt (Bh BK291)) : gb291 ≠ gb312)); have n7_ := Aside0.mk ((by rw [hg]; exact Nat.ne_of_gt (blk_lt (Bh BK291)) : gb312 ≠ gb291)); clear HO_7; clear BK291; clear HB; have HO_7 := n0_; have BK291 := n1_; have HB := n2_; have BK312 := n3_; have GW312 := n4_; have GE312 := n5_; have NB291_312 := n6_; have NB312_291 := n7_; clear n0_ n1_ n2_ n3_ n4_ n5_ n6_ n7_; clear hb hbox hg; have hnb4003 := NB312_291.out; have hnc4003 := NB291_312.out; obtain ⟨⟨hcz4004_0, hcz4004_1, hcz4004_2, hcz4004_3, hcz4004_4, hcz4004_5, hcz4004_6, hcz4004_7, hcz4004_8, hcz4004_9, hcz4004_10⟩, hfz4004_0, hfz4004_1, hfz4004_2, hfz4004_3, hfz4004_4, hfz4004_5, hfz4004_6, hfz4004_7, hfz4004_8, hfz4004_9, hfz4004_10⟩ := cells11 BK312.out) | ((with_reducible refine gate_store (t := 29) (p := 10) rfl ?_); refine store_event (t := 29) (p := 10) (v := ?vo_w4005) (w1 := (((((((((((w4002.setCell ⟨gb312, 0, none⟩ (.int .i64 a0_0)).setCell ⟨gb312, 1, none⟩ (.int .i64 a0_1)).setCell ⟨gb312, 2, none⟩ (.bool a0_2)).setCell ⟨gb312, 3, none⟩ (.bool a0_3)).setCell ⟨gb312, 4, none⟩ (.int .i64 a0_4)).setCell ⟨gb312, 5, none⟩ (.int .i64 a0_5)).setCell ⟨gb312, 6, none⟩ (.int .i64 a0_6)).setCell ⟨gb312, 7, none⟩ (.int .i64 a0_7)).setCell ⟨gb312, 8, none⟩ (.int .i64 a0_8)).setCell ⟨gb312, 9, none⟩ (.slice A0_9 l0_9.length c0_9)).setCell ⟨gb312, 10, none⟩ (.slice A0_10 l0_10.length c0_10))) ?hg ?ho ?hn ?hr ?_; (case ho => rfl); (case hg => rfl); (case hn => rfl); (case hr => first | (go_simp; done) | (go_simp; rfl)); intro w4005 hw; have n0_ : Aside0 (Kd.S kP 29 w4005 w.heap.size (fun k_ => (w.heap.size ≤ k_) ∧ k_ ≠ gb291 ∧ k_ ≠ gb312) u7 x7_3) := ⟨(by rw [hw]; exact (by (with_reducible repeat (first | apply Kd.S_alloc | apply Kd.S_drewN | apply Kd.S_drew)); exact Kd.S_mono (Kd.S_far (p := ⟨gb312, 10, none⟩) (Kd.S_far (p := ⟨gb312, 9, none⟩) (Kd.S_far (p := ⟨gb312, 8, none⟩) (Kd.S_far (p := ⟨gb312, 7, none⟩) (Kd.S_far (p := ⟨gb312, 6, none⟩) (Kd.S_far (p := ⟨gb312, 5, none⟩) (Kd.S_far (p := ⟨gb312, 4, none⟩) (Kd.S_far (p := ⟨gb312, 3, none⟩) (Kd.S_far (p := ⟨gb312, 2, none⟩) (Kd.S_far (p := ⟨gb312, 1, none⟩) (Kd.S_far (p := ⟨gb312, 0, none⟩) (Kd.S_mono HO_7.out (fun k_ hk => (⟨hk, hk.2⟩ : _ ∧ k_ ≠ gb312))) (fun _ hk => hk.2) (.int .i64 a0_0)) (fun _ hk => hk.2) (.int .i64 a0_1)) (fun _ hk => hk.2) (.bool a0_2)) (fun _ hk => hk.2) (.bool a0_3)) (fun _ hk => hk.2) (.int .i64 a0_4)) (fun _ hk => hk.2) (.int .i64 a0_5)) (fun _ hk => hk.2) (.int .i64 a0_6)) (fun _ hk => hk.2) (.int .i64 a0_7)) (fun _ hk => hk.2) (.int .i64 a0_8)) (fun _ hk => hk.2) (.slice A0_9 l0_9.length c0_9)) (fun _ hk => hk.2) (.slice A0_10 l0_10.length c0_10)) (fun _ hk => ⟨hk.1.1.1, ⟨hk.1.1.2, hk.1.2⟩⟩)))⟩; have n1_ : Aside0 (w4005.heap[gb291]? = some (.cells #[.int .i64 a0_0, .int .i64 a0_1, .bool a0_2, .bool a0_3, .int .i64 a0_4, .int .i64 a0_5, .int .i64 a0_6, .int .i64 a0_7, .int .i64 a0_8, .slice A0_9 l0_9.length c0_9, .slice A0_10 l0_10.length c0_10] 29 (0, 0))) := ⟨(by rw [hw]; exact (by (with_reducible repeat (first | refine blk_drewN ?_ _ | refine blk_drew ?_ | refine blk_alloc ?_ _)); refine blk_far ?_ NB291_312.out _; (with_reducible repeat (first | refine blk_drewN ?_ _ | refine blk_drew ?_ | refine blk_alloc ?_ _)); refine blk_far ?_ NB291_312.out _; (with_reducible repeat (first | refine blk_drewN ?_ _ | refine blk_drew ?_ | refine blk_alloc ?_ _)); refine blk_far ?_ NB291_312.out _; (with_reducible repeat (first | refine blk_drewN ?_ _ | refine blk_drew ?_ | refine blk_alloc ?_ _)); refine blk_far ?_ NB291_312.out _; (with_reducible repeat (first | refine blk_drewN ?_ _ | refine blk_drew ?_ | refine blk_alloc ?_ _)); refine blk_far ?_ NB291_312.out _; (with_reducible repeat (first | refine blk_drewN ?_ _ | refine blk_drew ?_ | refine blk_alloc ?_ _)); refine blk_far ?_ NB291_312.out _; (with_reducible repeat (first | refine blk_drewN ?_ _ | refine blk_drew ?_ | refine blk_alloc ?_ _)); refine blk_far ?_ NB291_312.out _; (with_reducible repeat (first | refine blk_drewN ?_ _ | refine blk_drew ?_ | refine blk_alloc ?_ _)); refine blk_far ?_ NB291_312.out _; (with_reducible repeat (first | refine blk_drewN ?_ _ | refine blk_drew ?_ | refine blk_alloc ?_ _)); refine blk_far ?_ NB291_312.out _; (with_reducible repeat (first | refine blk_drewN ?_ _ | refine blk_drew ?_ | refine blk_alloc ?_ _)); refine blk_far ?_ NB291_312.out _; (with_reducible repeat (first | refine blk_drewN ?_ _ | refine blk_drew ?_ | refine blk_alloc ?_ _)); refine blk_far ?_ NB291_312.out _; (with_reducible repeat (first | refine blk_drewN ?_ _ | refine blk_drew ?_ | refine blk_alloc ?_ _)); exact BK291.out))⟩; have n2_ : Aside0 (w4005.heap[gb312]? = some (.cells #[.int .i64 a0_0, .int .i64 a0_1, .bool a0_2, .bool a0_3, .int .i64 a0_4, .int .i64 a0_5, .int .i64 a0_6, .int .i64 a0_7, .int .i64 a0_8, .slice A0_9 l0_9.length c0_9, .slice A0_10 l0_10.length c0_10] 29 (0, 0))) := ⟨(by rw [hw]; exact (by (with_reducible repeat (first | refine blk_drewN ?_ _ | refine blk_drew ?_ | refine blk_alloc ?_ _)); refine blk_put (cs := #[.int .i64 a0_0, .int .i64 a0_1, .bool a0_2, .bool a0_3, .int .i64 a0_4, .int .i64 a0_5, .int .i64 a0_6, .int .i64 a0_7, .int .i64 a0_8, .slice A0_9 l0_9.length c0_9, .slice none 0 0]) ?_ 10 _ rfl; (with_reducible repeat (first | refine blk_drewN ?_ _ | refine blk_drew ?_ | refine blk_alloc ?_ _)); refine blk_put (cs := #[.int .i64 a0_0, .int .i64 a0_1, .bool a0_2, .bool a0_3, .int .i64 a0_4, .int .i64 a0_5, .int .i64 a0_6, .int .i64 a0_7, .int .i64 a0_8, .slice none 0 0, .slice none 0 0]) ?_ 9 _ rfl; (with_reducible repeat (first | refine blk_drewN ?_ _ | refine blk_drew ?_ | refine blk_alloc ?_ _)); refine blk_put (cs := #[.int .i64 a0_0, .int .i64 a0_1, .bool a0_2, .bool a0_3, .int .i64 a0_4, .int .i64 a0_5, .int .i64 a0_6, .int .i64 a0_7, .int .i64 0, .slice none 0 0, .slice none 0 0]) ?_ 8 _ rfl; (with_reducible repeat (first | refine blk_drewN ?_ _ | refine blk_drew ?_ | refine blk_alloc ?_ _)); refine blk_put (cs := #[.int .i64 a0_0, .int .i64 a0_1, .bool a0_2, .bool a0_3, .int .i64 a0_4, .int .i64 a0_5, .int .i64 a0_6, .int .i64 0, .int .i64 0, .slice none 0 0, .slice none 0 0]) ?_ 7 _ rfl; (with_reducible repeat (first | refine blk_drewN ?_ _ | refine blk_drew ?_ | refine blk_alloc ?_ _)); refine blk_put (cs := #[.int .i64 a0_0, .int .i64 a0_1, .bool a0_2, .bool a0_3, .int .i64 a0_4, .int .i64 a0_5, .int .i64 0, .int .i64 0, .int .i64 0, .slice none 0 0, .slice none 0 0]) ?_ 6 _ rfl; (with_reducible repeat (first | refine blk_drewN ?_ _ | refine blk_drew ?_ | refine blk_alloc ?_ _)); refine blk_put (cs := #[.int .i64 a0_0, .int .i64 a0_1, .bool a0_2, .bool a0_3, .int .i64 a0_4, .int .i64 0, .int .i64 0, .int .i64 0, .int .i64 0, .slice none 0 0, .slice none 0 0]) ?_ 5 _ rfl; (with_reducible repeat (first | refine blk_drewN ?_ _ | refine blk_drew ?_ | refine blk_alloc ?_ _)); refine blk_put (cs := #[.int .i64 a0_0, .int .i64 a0_1, .bool a0_2, .bool a0_3, .int .i64 0, .int .i64 0, .int .i64 0, .int .i64 0, .int .i64 0, .slice none 0 0, .slice none 0 0]) ?_ 4 _ rfl; (with_reducible repeat (first | refine blk_drewN ?_ _ | refine blk_drew ?_ | refine blk_alloc ?_ _)); refine blk_put (cs := #[.int .i64 a0_0, .int .i64 a0_1, .bool a0_2, .bool false, .int .i64 0, .int .i64 0, .int .i64 0, .int .i64 0, .int .i64 0, .slice none 0 0, .slice none 0 0]) ?_ 3 _ rfl; (with_reducible repeat (first | refine blk_drewN ?_ _ | refine blk_drew ?_ | refine blk_alloc ?_ _)); refine blk_put (cs := #[.int .i64 a0_0, .int .i64 a0_1, .bool false, .bool false, .int .i64 0, .int .i64 0, .int .i64 0, .int .i64 0, .int .i64 0, .slice none 0 0, .slice none 0 0]) ?_ 2 _ rfl; (with_reducible repeat (first | refine blk_drewN ?_ _ | refine blk_drew ?_ | refine blk_alloc ?_ _)); refine blk_put (cs := #[.int .i64 a0_0, .int .i64 0, .bool false, .bool false, .int .i64 0, .int .i64 0, .int .i64 0, .int .i64 0, .int .i64 0, .slice none 0 0, .slice none 0 0]) ?_ 1 _ rfl; (with_reducible repeat (first | refine blk_drewN ?_ _ | refine blk_drew ?_ | refine blk_alloc ?_ _)); refine blk_put (cs := #[.int .i64 0, .int .i64 0, .bool false, .bool false, .int .i64 0, .int .i64 0, .int .i64 0, .int .i64 0, .int .i64 0, .slice none 0 0, .slice none 0 0]) ?_ 0 _ rfl; (with_reducible repeat (first | refine blk_drewN ?_ _ | refine blk_drew ?_ | refine blk_alloc ?_ _)); exact BK312.out))⟩; have n3_ : Aside0 (Below w.heap.size w w4005) := ⟨(by rw [hw]; exact wB)⟩; clear hw; clear HO_7; clear BK291; clear BK312; clear HB; have HO_7 := n0_; have BK291 := n1_; have BK312 := n2_; have HB := n3_; clear n0_ n1_ n2_ n3_; obtain ⟨⟨hcz4006_0, hcz4006_1, hcz4006_2, hcz4006_3, hcz4006_4, hcz4006_5, hcz4006_6, hcz4006_7, hcz4006_8, hcz4006_9, hcz4006_10⟩, hfz4006_0, hfz4006_1, hfz4006_2, hfz4006_3, hfz4006_4, hfz4006_5, hfz4006_6, hfz4006_7, hfz4006_8, hfz4006_9, hfz4006_10⟩ := cells11 BK291.out) | ((with_reducible refine gate_callee (f := 22) rfl ?_); refine goesL_ (some 48) rfl rfl Try.func22 (by kernel_rfl) rfl #[.slice A0_9 l0_9.length c0_9] rfl wT ?_; (with_reducible refine (impl_dup.calls _ _ l0_9 t313 _ ?side1 ?side2 A3001.out).mono ?_); (case side1 => exact Kd.C_below HR0_9.out wB); (case side2 => exact HC0_9.out); rintro e w4007 ⟨v314, rfl, ho0, hb⟩; refine ⟨_, rfl, ?_⟩; have n0_ := Aside0.mk (Kd.S_elder' (by (with_reducible repeat (first | apply Kd.S_alloc | apply Kd.S_drewN | apply Kd.S_drew)); exact HO_7.out) (Kd.R_base ho0) hb); have n1_ := Aside0.mk (Kd.R_lower (Kd.R_newM (M := fun k_ => (w.heap.size ≤ k_)) ho0 (below_size wB) (fun k_ h_ => h_)) (below_size wB)); have n2_ := Aside0.mk (blk_below (Bh BK291) hb); have n3_ := Aside0.mk (blk_below (Bh BK312) hb); have n4_ := Aside0.mk (below_step wB hb); clear HO_7; clear BK291; clear BK312; clear HB; have HO_7 := n0_; have HO315 := n1_; have BK291 := n2_; have BK312 := n3_; have HB := n4_; clear n0_ n1_ n2_ n3_ n4_; (try clear hb); (try clear hb2); (try clear hk); (try clear hi); (try clear ho0); obtain ⟨Ao4008, co4008, eo4008⟩ := Kd.R_slice HO315.out; subst eo4008; obtain ⟨⟨hcz4009_0, hcz4009_1, hcz4009_2, hcz4009_3, hcz4009_4, hcz4009_5, hcz4009_6, hcz4009_7, hcz4009_8, hcz4009_9, hcz4009_10⟩, hfz4009_0, hfz4009_1, hfz4009_2, hfz4009_3, hfz4009_4, hfz4009_5, hfz4009_6, hfz4009_7, hfz4009_8, hfz4009_9, hfz4009_10⟩ := cells11 BK312.out; obtain ⟨⟨hcz4010_0, hcz4010_1, hcz4010_2, hcz4010_3, hcz4010_4, hcz4010_5, hcz4010_6, hcz4010_7, hcz4010_8, hcz4010_9, hcz4010_10⟩, hfz4010_0, hfz4010_1, hfz4010_2, hfz4010_3, hfz4010_4, hfz4010_5, hfz4010_6, hfz4010_7, hfz4010_8, hfz4010_9, hfz4010_10⟩ := cells11 BK291.out) | ((with_reducible refine gate_store (t := 2) (p := 54) rfl ?_); refine store_event (t := 2) (p := 54) (v := ?vo_w4011) (w1 := ((w4007.setCell ⟨gb312, 9, none⟩ (.slice Ao4008 t313.length co4008)).setCell ⟨gb312, 4, none⟩ (.int .i64 (wrap64 (a0_4 + x9_3))))) ?hg ?ho ?hn ?hr ?_; (case ho => rfl); (case hg => rfl); (case hn => rfl); (case hr => first | (go_simp; done) | (go_simp; rfl)); intro w4011 hw; have n0_ : Aside0 (Kd.S kP 29 w4011 w.heap.size (fun k_ => (w.heap.size ≤ k_) ∧ some k_ ≠ (.slice Ao4008 t313.length co4008 : Value).ownBlock ∧ k_ ≠ gb291 ∧ k_ ≠ gb312) u7 x7_3) := ⟨(by rw [hw]; exact (by (with_reducible repeat (first | apply Kd.S_alloc | apply Kd.S_drewN | apply Kd.S_drew)); exact Kd.S_mono (Kd.S_far (p := ⟨gb312, 4, none⟩) (Kd.S_far (p := ⟨gb312, 9, none⟩) (Kd.S_mono HO_7.out (fun k_ hk => (⟨hk, hk.1.2.2⟩ : _ ∧ k_ ≠ gb312))) (fun _ hk => hk.2) (.slice Ao4008 t313.length co4008)) (fun _ hk => hk.2) (.int .i64 (wrap64 (a0_4 + x9_3)))) (fun _ hk => ⟨hk.1.1.1, ⟨hk.1.2, ⟨hk.1.1.2.1, hk.1.1.2.2⟩⟩⟩)))⟩; have n1_ : Aside0 (Kd.R (Kd.int .u8) 5 w4011 w.heap.size (fun k_ => (w.heap.size ≤ k_)) (.slice Ao4008 t313.length co4008) t313) := ⟨(by rw [hw]; exact (by (with_reducible repeat (first | apply Kd.R_alloc | apply Kd.R_drewN | apply Kd.R_drew)); exact Kd.R_mono (Kd.R_far (p := ⟨gb312, 4, none⟩) (Kd.R_far (p := ⟨gb312, 9, none⟩) (Kd.R_types HO315.out BK312.out (by decide)) (fun _ hk => hk.2) (.slice Ao4008 t313.length co4008)) (fun _ hk => hk.2) (.int .i64 (wrap64 (a0_4 + x9_3)))) (fun _ hk => hk.1.1)))⟩; have n2_ : Aside0 (w4011.heap[gb291]? = some (.cells #[.int .i64 a0_0, .int .i64 a0_1, .bool a0_2, .bool a0_3, .int .i64 a0_4, .int .i64 a0_5, .int .i64 a0_6, .int .i64 a0_7, .int .i64 a0_8, .slice A0_9 l0_9.length c0_9, .slice A0_10 l0_10.length c0_10] 29 (0, 0))) := ⟨(by rw [hw]; exact (by (with_reducible repeat (first | refine blk_drewN ?_ _ | refine blk_drew ?_ | refine blk_alloc ?_ _)); refine blk_far ?_ NB291_312.out _; (with_reducible repeat (first | refine blk_drewN ?_ _ | refine blk_drew ?_ | refine blk_alloc ?_ _)); refine blk_far ?_ NB291_312.out _; (with_reducible repeat (first | refine blk_drewN ?_ _ | refine blk_drew ?_ | refine blk_alloc ?_ _)); exact BK291.out))⟩; have n3_ : Aside0 (w4011.heap[gb312]? = some (.cells #[.int .i64 a0_0, .int .i64 a0_1, .bool a0_2, .bool a0_3, .int .i64 (wrap64 (a0_4 + x9_3)), .int .i64 a0_5, .int .i64 a0_6, .int .i64 a0_7, .int .i64 a0_8, .slice Ao4008 t313.length co4008, .slice A0_10 l0_10.length c0_10] 29 (0, 0))) := ⟨(by rw [hw]; exact (by (with_reducible repeat (first | refine blk_drewN ?_ _ | refine blk_drew ?_ | refine blk_alloc ?_ _)); refine blk_put (cs := #[.int .i64 a0_0, .int .i64 a0_1, .bool a0_2, .bool a0_3, .int .i64 a0_4, .int .i64 a0_5, .int .i64 a0_6, .int .i64 a0_7, .int .i64 a0_8, .slice Ao4008 t313.length co4008, .slice A0_10 l0_10.length c0_10]) ?_ 4 _ rfl; (with_reducible repeat (first | refine blk_drewN ?_ _ | refine blk_drew ?_ | refine blk_alloc ?_ _)); refine blk_put (cs := #[.int .i64 a0_0, .int .i64 a0_1, .bool a0_2, .bool a0_3, .int .i64 a0_4, .int .i64 a0_5, .int .i64 a0_6, .int .i64 a0_7, .int .i64 a0_8, .slice A0_9 l0_9.length c0_9, .slice A0_10 l0_10.length c0_10]) ?_ 9 _ rfl; (with_reducible repeat (first | refine blk_drewN ?_ _ | refine blk_drew ?_ | refine blk_alloc ?_ _)); exact BK312.out))⟩; have n4_ : Aside0 (Below w.heap.size w w4011) := ⟨(by rw [hw]; exact wB)⟩; clear hw; clear HO_7; clear HO315; clear BK291; clear BK312; clear HB; have HO_7 := n0_; have HO315 := n1_; have BK291 := n2_; have BK312 := n3_; have HB := n4_; clear n0_ n1_ n2_ n3_ n4_; obtain ⟨⟨hcz4012_0, hcz4012_1, hcz4012_2, hcz4012_3, hcz4012_4, hcz4012_5, hcz4012_6, hcz4012_7, hcz4012_8, hcz4012_9, hcz4012_10⟩, hfz4012_0, hfz4012_1, hfz4012_2, hfz4012_3, hfz4012_4, hfz4012_5, hfz4012_6, hfz4012_7, hfz4012_8, hfz4012_9, hfz4012_10⟩ := cells11 BK291.out; obtain ⟨i04013, hi04013, _, hsz4013, _⟩ := info_parts info5; obtain ⟨A4013, hcut4013, hA4013, hC4013⟩ := print_drop_of (P := Try.prog) (Value.int .u8) 0 22 5 .i64 Try.underlying22 hi04013 hsz4013 A0_10 c0_10 l0_10 x9_3 (of_decide_eq_true (by first | (with_reducible assumption) | assumption)) (of_decide_eq_true (by first | (with_reducible assumption) | assumption)) HC0_10.out; have HR316 := Aside0.mk (Kd.C_of_reads (h1 := fun _ => rfl) (hA4013 _ (Kd.reads_of_C HR0_10.out))); have HC316 := Aside0.mk hC4013; clear hA4013 hC4013 hi04013 hsz4013) | ((with_reducible refine gate_callee (f := 22) rfl ?_); refine goesL_ (some 67) rfl rfl Try.func22 (by kernel_rfl) rfl #[.slice A4013 (l0_10.drop (x9_3 : Int).toNat).length (c0_10 - x9_3.toNat)] rfl (by (try simp only [List.map_toArray, List.map_cons, List.map_nil]); first | done | (rw [show (l0_10.drop (x9_3 : Int).toNat).length = (l0_10.length - x9_3.toNat) from List.length_drop] <;> rfl) | rfl | (simp only [List.length_drop, List.length_take]; rfl)) ?_; (with_reducible refine (impl_dup.calls _ _ (l0_10.drop (x9_3 : Int).toNat) t317 _ ?side1 ?side2 A3005.out).mono ?_); (case side1 => exact Kd.C_below HR316.out wB); (case side2 => exact HC316.out); rintro e w4014 ⟨v318, rfl, ho0, hb⟩; refine ⟨_, rfl, ?_⟩; have n0_ := Aside0.mk (Kd.S_elder' (by (with_reducible repeat (first | apply Kd.S_alloc | apply Kd.S_drewN | apply Kd.S_drew)); exact HO_7.out) (Kd.R_base ho0) hb); have n1_ := Aside0.mk (Kd.R_elder' (Rh HO315) (Kd.R_base ho0) hb); have n2_ := Aside0.mk (Kd.R_lower (Kd.R_new' (Kd.R_newM (M := fun k_ => (w.heap.size ≤ k_)) ho0 (below_size wB) (fun k_ h_ => h_)) (Kd.R_lt (Rh HO315))) (below_size wB)); have n3_ := Aside0.mk (blk_below (Bh BK291) hb); have n4_ := Aside0.mk (blk_below (Bh BK312) hb); have n5_ := Aside0.mk (below_step wB hb); clear HO_7; clear HO315; clear BK291; clear BK312; clear HB; have HO_7 := n0_; have HO315 := n1_; have HO319 := n2_; have BK291 := n3_; have BK312 := n4_; have HB := n5_; clear n0_ n1_ n2_ n3_ n4_ n5_; (try clear hb); (try clear hb2); (try clear hk); (try clear hi); (try clear ho0); obtain ⟨Ao4015, co4015, eo4015⟩ := Kd.R_slice HO319.out; subst eo4015; obtain ⟨⟨hcz4016_0, hcz4016_1, hcz4016_2, hcz4016_3, hcz4016_4, hcz4016_5, hcz4016_6, hcz4016_7, hcz4016_8, hcz4016_9, hcz4016_10⟩, hfz4016_0, hfz4016_1, hfz4016_2, hfz4016_3, hfz4016_4, hfz4016_5, hfz4016_6, hfz4016_7, hfz4016_8, hfz4016_9, hfz4016_10⟩ := cells11 BK312.out) | ((with_reducible refine gate_store (t := 22) (p := 68) rfl ?_); refine store_event (t := 22) (p := 68) (v := ?vo_w4017) (w1 := (w4014.setCell ⟨gb312, 10, none⟩ (.slice Ao4015 t317.length co4015))) ?hg ?ho ?hn ?hr ?_; (case ho => rfl); (case hg => rfl); (case hn => rfl); (case hr => first | (go_simp; done) | (go_simp; rfl)); intro w4017 hw; have n0_ : Aside0 (Kd.S kP 29 w4017 w.heap.size (fun k_ => (w.heap.size ≤ k_) ∧ some k_ ≠ (.slice Ao4008 t313.length co4008 : Value).ownBlock ∧ some k_ ≠ (.slice Ao4015 t317.length co4015 : Value).ownBlock ∧ k_ ≠ gb291 ∧ k_ ≠ gb312) u7 x7_3) := ⟨(by rw [hw]; exact (by (with_reducible repeat (first | apply Kd.S_alloc | apply Kd.S_drewN | apply Kd.S_drew)); exact Kd.S_mono (Kd.S_far (p := ⟨gb312, 10, none⟩) (Kd.S_mono HO_7.out (fun k_ hk => (⟨hk, hk.1.2.2.2⟩ : _ ∧ k_ ≠ gb312))) (fun _ hk => hk.2) (.slice Ao4015 t317.length co4015)) (fun _ hk => ⟨hk.1.1.1, ⟨hk.1.1.2.1, ⟨hk.1.2, ⟨hk.1.1.2.2.1, hk.1.1.2.2.2⟩⟩⟩⟩)))⟩; have n1_ : Aside0 (Kd.R (Kd.int .u8) 5 w4017 w.heap.size (fun k_ => (w.heap.size ≤ k_) ∧ some k_ ≠ (.slice Ao4015 t317.length co4015 : Value).ownBlock) (.slice Ao4008 t313.length co4008) t313) := ⟨(by rw [hw]; exact (by (with_reducible repeat (first | apply Kd.R_alloc | apply Kd.R_drewN | apply Kd.R_drew)); exact Kd.R_mono (Kd.R_far (p := ⟨gb312, 10, none⟩) (Kd.R_types HO315.out BK312.out (by decide)) (fun _ hk => hk.2) (.slice Ao4015 t317.length co4015)) (fun _ hk => ⟨hk.1.1, hk.1.2⟩)))⟩; have n2_ : Aside0 (Kd.R (Kd.int .u8) 5 w4017 w.heap.size (fun k_ => (w.heap.size ≤ k_) ∧ some k_ ≠ (.slice Ao4008 t313.length co4008 : Value).ownBlock) (.slice Ao4015 t317.length co4015) t317) := ⟨(by rw [hw]; exact (by (with_reducible repeat (first | apply Kd.R_alloc | apply Kd.R_drewN | apply Kd.R_drew)); exact Kd.R_mono (Kd.R_far (p := ⟨gb312, 10, none⟩) (Kd.R_types HO319.out BK312.out (by decide)) (fun _ hk => hk.2) (.slice Ao4015 t317.length co4015)) (fun _ hk => ⟨hk.1.1.1, hk.1.2⟩)))⟩; have n3_ : Aside0 (w4017.heap[gb291]? = some (.cells #[.int .i64 a0_0, .int .i64 a0_1, .bool a0_2, .bool a0_3, .int .i64 a0_4, .int .i64 a0_5, .int .i64 a0_6, .int .i64 a0_7, .int .i64 a0_8, .slice A0_9 l0_9.length c0_9, .slice A0_10 l0_10.length c0_10] 29 (0, 0))) := ⟨(by rw [hw]; exact (by (with_reducible repeat (first | refine blk_drewN ?_ _ | refine blk_drew ?_ | refine blk_alloc ?_ _)); refine blk_far ?_ NB291_312.out _; (with_reducible repeat (first | refine blk_drewN ?_ _ | refine blk_drew ?_ | refine blk_alloc ?_ _)); exact BK291.out))⟩; have n4_ : Aside0 (w4017.heap[gb312]? = some (.cells #[.int .i64 a0_0, .int .i64 a0_1, .bool a0_2, .bool a0_3, .int .i64 (wrap64 (a0_4 + x9_3)), .int .i64 a0_5, .int .i64 a0_6, .int .i64 a0_7, .int .i64 a0_8, .slice Ao4008 t313.length co4008, .slice Ao4015 t317.length co4015] 29 (0, 0))) := ⟨(by rw [hw]; exact (by (with_reducible repeat (first | refine blk_drewN ?_ _ | refine blk_drew ?_ | refine blk_alloc ?_ _)); refine blk_put (cs := #[.int .i64 a0_0, .int .i64 a0_1, .bool a0_2, .bool a0_3, .int .i64 (wrap64 (a0_4 + x9_3)), .int .i64 a0_5, .int .i64 a0_6, .int .i64 a0_7, .int .i64 a0_8, .slice Ao4008 t313.length co4008, .slice A0_10 l0_10.length c0_10]) ?_ 10 _ rfl; (with_reducible repeat (first | refine blk_drewN ?_ _ | refine blk_drew ?_ | refine blk_alloc ?_ _)); exact BK312.out))⟩; have n5_ : Aside0 (Below w.heap.size w w4017) := ⟨(by rw [hw]; exact wB)⟩; clear hw; clear HO_7; clear HO315; clear HO319; clear BK291; clear BK312; clear HB; have HO_7 := n0_; have HO315 := n1_; have HO319 := n2_; have BK291 := n3_; have BK312 := n4_; have HB := n5_; clear n0_ n1_ n2_ n3_ n4_ n5_; obtain ⟨⟨hcz4018_0, hcz4018_1, hcz4018_2, hcz4018_3, hcz4018_4, hcz4018_5, hcz4018_6, hcz4018_7, hcz4018_8, hcz4018_9, hcz4018_10⟩, hfz4018_0, hfz4018_1, hfz4018_2, hfz4018_3, hfz4018_4, hfz4018_5, hfz4018_6, hfz4018_7, hfz4018_8, hfz4018_9, hfz4018_10⟩ := cells11 BK312.out) | ((with_reducible refine gate_builtin (b := .append) (xs := #[.tmp 69, .tmp 71]) rfl ?_); at_builtin; refine Kd.S_append kP (w0 := w) w.heap.size rfl (.tmp 69) (.tmp 71) 26 29 (.agg #[(.int .i64 0), (.int .i64 0), (.bool false), (.bool false), (.int .i64 0), (.int .i64 0), (.int .i64 0), (.int .i64 0), (.int .i64 0), (.slice none 0 0), (.slice none 0 0)]) 112 rfl Try.underlying26 info29 rfl (by decide) (by omega) u7 x7_3 (⟨a0_0, a0_1, a0_2, a0_3, wrap64 (a0_4 + x9_3), a0_5, a0_6, a0_7, a0_8, t313, t317⟩ : S29) [.int .i64 a0_0, .int .i64 a0_1, .bool a0_2, .bool a0_3, .int .i64 (wrap64 (a0_4 + x9_3)), .int .i64 a0_5, .int .i64 a0_6, .int .i64 a0_7, .int .i64 a0_8, .slice Ao4008 t313.length co4008, .slice Ao4015 t317.length co4015] (fun k_ => (w.heap.size ≤ k_) ∧ k_ ≠ gb291 ∧ k_ ≠ gb312) (fun k_ => some k_ = (.slice Ao4008 t313.length co4008 : Value).ownBlock ∨ some k_ = (.slice Ao4015 t317.length co4015 : Value).ownBlock) rfl rfl ?aP ?aK ?aF ?aO ?aB ?aS ?aL ?_; (case aP => exact ⟨k29_mkM _ _ _ (⟨a0_0, a0_1, a0_2, a0_3, wrap64 (a0_4 + x9_3), a0_5, a0_6, a0_7, a0_8, t313, t317⟩ : S29) (Kd.R_mono (Kd.R_tight rfl HO315.out) (fun _ hk => Or.inl hk)) (Kd.R_mono (Kd.R_tight rfl HO319.out) (fun _ hk => Or.inr hk)), fun k_ e_ e2_ => (HO315.out.1 k_ e_).2 (Eq.symm e2_)⟩); (case aK => exact fun k_ hk => hk.elim (fun e_ => ((Kd.R_mono (ok' := (fun k_ => ((fun k_ => (w.heap.size ≤ k_) ∧ k_ ≠ gb291 ∧ k_ ≠ gb312)) k_ ∧ some k_ ≠ (u7 : Value).ownBlock)) (Kd.R_types (Kd.R_types (Kd.R_apart' (HO315.out) (Kd.S_typed HO_7.out) (by decide)) BK291.out (by decide)) BK312.out (by decide)) (fun k_ hk => ⟨⟨hk.1.1.1.1, ⟨hk.1.2, hk.2⟩⟩, hk.1.1.2⟩))).1 k_ (Eq.symm e_)) (fun e_ => ((Kd.R_mono (ok' := (fun k_ => ((fun k_ => (w.heap.size ≤ k_) ∧ k_ ≠ gb291 ∧ k_ ≠ gb312)) k_ ∧ some k_ ≠ (u7 : Value).ownBlock)) (Kd.R_types (Kd.R_types (Kd.R_apart' (HO319.out) (Kd.S_typed HO_7.out) (by decide)) BK291.out (by decide)) BK312.out (by decide)) (fun k_ hk => ⟨⟨hk.1.1.1.1, ⟨hk.1.2, hk.2⟩⟩, hk.1.1.2⟩))).1 k_ (Eq.symm e_))); (case aB => exact wB); (case aF => exact (fun k_ hk => ⟨(Nat.le_trans (below_size wB) hk), Kd.freshB (Bh BK291) k_ hk, Kd.freshB (Bh BK312) k_ hk⟩)); (case aO => exact (by (with_reducible repeat (first | apply Kd.S_alloc | apply Kd.S_drewN | apply Kd.S_drew)); exact Kd.S_mono HO_7.out (fun _ hk => ⟨⟨hk.1, ⟨hk.2.2.2.1, hk.2.2.2.2⟩⟩, fun h_ => h_.elim hk.2.1 hk.2.2.1⟩))); (case aS => exact (below_size wB)); (case aL => have := LMc3006.out; omega); intro v321 w4019 ho hb hg hat; rw [← Ny320.out] at ho; have n0_ := Aside0.mk (blk_grown (Bh BK291) hg (Kd.S_away HO_7.out (fun _ hk => hk.2.2.2.1))); have n1_ := Aside0.mk (blk_grown (Bh BK312) hg (Kd.S_away HO_7.out (fun _ hk => hk.2.2.2.2))); have n2_ := Aside0.mk (hb); have n3_ := Aside0.mk (ho); clear BK291; clear BK312; clear HB; clear HO_7; clear HO315; clear HO319; have BK291 := n0_; have BK312 := n1_; have HB := n2_; have HO322 := n3_; clear n0_ n1_ n2_ n3_; clear ho hb hg hat))
                            go_ret2
                            exact ⟨_, by first | rfl | (simp [errW_none, errW_some] <;> rfl) | (simp [*, errW_none, errW_some] <;> rfl), by (with_reducible repeat (first | apply Kd.S_alloc | apply Kd.S_drewN | apply Kd.S_drew)); exact Kd.S_mono HO322.out (fun _ hk => hk.1), wB⟩
                          · rw [if_neg c3006] at H
                            exact absurd H (by simp)
                        · rw [if_neg c3004] at H
                          exact absurd H (by simp)
                      · rw [if_neg c3003] at H
                        exact absurd H (by simp)
                    · rw [if_neg c3002] at H
                      have c3002b0 : decide ((wrap64 ((l0_10.length : Int) - x9_3)) ≤ (wrap64 ((wrap64 (Int.tdiv (wrap64 ((wrap64 (a1 - 20)) - (l0_9.length : Int))) 8)) * 8))) = false := decide_eq_false c3002
                      clear c3002
                      by_cases c3007 : 0 ≤ x9_3
                      · rw [if_pos c3007] at H
                        have c3007b0 := eq_true c3007
                        have c3007b1 : decide (0 ≤ x9_3) = true := decide_eq_true c3007
                        clear c3007
                        by_cases c3008 : x9_3 ≤ (wrap64 (x9_3 + (wrap64 ((wrap64 (Int.tdiv (wrap64 ((wrap64 (a1 - 20)) - (l0_9.length : Int))) 8)) * 8))))
                        · rw [if_pos c3008] at H
                          have c3008b0 := eq_true c3008
                          have c3008b1 : decide (x9_3 ≤ (wrap64 (x9_3 + (wrap64 ((wrap64 (Int.tdiv (wrap64 ((wrap64 (a1 - 20)) - (l0_9.length : Int))) 8)) * 8))))) = true := decide_eq_true c3008
                          by_cases c3009 : (wrap64 (x9_3 + (wrap64 ((wrap64 (Int.tdiv (wrap64 ((wrap64 (a1 - 20)) - (l0_9.length : Int))) 8)) * 8)))) ≤ (l0_10.length : Int)
                          · rw [if_pos c3009] at H
                            have c3009b0 := eq_true c3009
                            have c3009b1 : decide ((wrap64 (x9_3 + (wrap64 ((wrap64 (Int.tdiv (wrap64 ((wrap64 (a1 - 20)) - (l0_9.length : Int))) 8)) * 8)))) ≤ (l0_10.length : Int)) = true := decide_eq_true c3009
                            replace H := Option.bind_eq_some_iff.mp H
                            obtain ⟨t324, A30100, H⟩ := H
                            replace H : (if x7_3.length < 1256584717458 then (impl_Fragment.l0 k3 (x7_3 ++ [(⟨a0_0, a0_1, a0_2, true, wrap64 (a0_4 + x9_3), a0_5, a0_6, a0_7, a0_8, t313, t324⟩ : S29)]) (wrap64 ((wrap64 (Int.tdiv (wrap64 ((wrap64 (a1 - 20)) - (l0_9.length : Int))) 8)) * 8)) (wrap64 (x9_3 + (wrap64 ((wrap64 (Int.tdiv (wrap64 ((wrap64 (a1 - 20)) - (l0_9.length : Int))) 8)) * 8)))) a0_0 a0_1 a0_2 a0_3 a0_4 a0_5 a0_6 a0_7 a0_8 l0_9 l0_10) else (none)) = some (r1, r2) := H
                            have A3010 := Aside0.mk A30100
                            clear A30100
                            by_cases c3011 : x7_3.length < 1256584717458
                            · rw [if_pos c3011] at H
                              have LMc3011 := Aside0.mk c3011
                              clear c3011
                              obtain ⟨y327, hy327⟩ : ∃ y_ : List (S29), y_ = (x7_3 ++ [(⟨a0_0, a0_1, a0_2, true, wrap64 (a0_4 + x9_3), a0_5, a0_6, a0_7, a0_8, t313, t324⟩ : S29)]) := ⟨_, rfl⟩
                              replace H : (impl_Fragment.l0 k3 y327 (wrap64 ((wrap64 (Int.tdiv (wrap64 ((wrap64 (a1 - 20)) - (l0_9.length : Int))) 8)) * 8)) (wrap64 (x9_3 + (wrap64 ((wrap64 (Int.tdiv (wrap64 ((wrap64 (a1 - 20)) - (l0_9.length : Int))) 8)) * 8)))) a0_0 a0_1 a0_2 a0_3 a0_4 a0_5 a0_6 a0_7 a0_8 l0_9 l0_10) = some (r1, r2) := by first | (rw [hy327]; with_reducible exact H) | (have H2_ := (Option.bind_some _ _).symm.trans H; rw [hy327]; with_reducible exact H2_) | (have H2_ := (Option.bind_some _ _).symm.trans H; with_reducible exact H2_) | with_reducible exact H | (rw [hy327]; exact H) | exact H
                              have Ny327 := Aside0.mk hy327
                              clear hy327
                              have H' := Aside0.mk H
                              clear H
                              obtain ⟨⟨hcz4001_0, hcz4001_1, hcz4001_2, hcz4001_3, hcz4001_4, hcz4001_5, hcz4001_6, hcz4001_7, hcz4001_8, hcz4001_9, hcz4001_10⟩, hfz4001_0, hfz4001_1, hfz4001_2, hfz4001_3, hfz4001_4, hfz4001_5, hfz4001_6, hfz4001_7, hfz4001_8, hfz4001_9, hfz4001_10⟩ := cells11 BK291.out
                              go_wp2_with (first | ((with_reducible refine gate_dst (N := 10) rfl ?_); refine box_event ?hg (N := 10) ?hd (cs := #[.int .i64 0, .int .i64 0, .bool false, .bool false, .int .i64 0, .int .i64 0, .int .i64 0, .int .i64 0, .int .i64 0, .slice none 0 0, .slice none 0 0]) (t := 29) ?hr ?_; (case hd => rfl); (case hg => rfl); (case hr => first | (go_simp; done) | (go_simp; rfl)); intro gb312 hg w4002 hbox hb; have n0_ := Aside0.mk (Kd.S_below (Kd.S_elderB (by (with_reducible repeat (first | apply Kd.S_alloc | apply Kd.S_drewN | apply Kd.S_drew)); exact HO_7.out) gb312 (Nat.le_of_eq hg.symm)) hb); have n1_ := Aside0.mk (blk_below (Bh BK291) hb); have n2_ := Aside0.mk (below_step wB hb); have n3_ := Aside0.mk (hbox); have n4_ := Aside0.mk ((by rw [hg]; exact (below_size wB) : w.heap.size ≤ gb312)); have n5_ := Aside0.mk ((by rw [hg]; exact (below_size wB) : w.heap.size ≤ gb312)); have n6_ := Aside0.mk ((by rw [hg]; exact Nat.ne_of_lt (blk_lt (Bh BK291)) : gb291 ≠ gb312)); have n7_ := Aside0.mk ((by rw [hg]; exact Nat.ne_of_gt (blk_lt (Bh BK291)) : gb312 ≠ gb291)); clear HO_7; clear BK291; clear HB; have HO_7 := n0_; have BK291 := n1_; have HB := n2_; have BK312 := n3_; have GW312 := n4_; have GE312 := n5_; have NB291_312 := n6_; have NB312_291 := n7_; clear n0_ n1_ n2_ n3_ n4_ n5_ n6_ n7_; clear hb hbox hg; have hnb4003 := NB312_291.out; have hnc4003 := NB291_312.out; obtain ⟨⟨hcz4004_0, hcz4004_1, hcz4004_2, hcz4004_3, hcz4004_4, hcz4004_5, hcz4004_6, hcz4004_7, hcz4004_8, hcz4004_9, hcz4004_10⟩, hfz4004_0, hfz4004_1, hfz4004_2, hfz4004_3, hfz4004_4, hfz4004_5, hfz4004_6, hfz4004_7, hfz4004_8, hfz4004_9, hfz4004_10⟩ := cells11 BK312.out) | ((with_reducible refine gate_store (t := 29) (p := 10) rfl ?_); refine store_event (t := 29) (p := 10) (v := ?vo_w4005) (w1 := (((((((((((w4002.setCell ⟨gb312, 0, none⟩ (.int .i64 a0_0)).setCell ⟨gb312, 1, none⟩ (.int .i64 a0_1)).setCell ⟨gb312, 2, none⟩ (.bool a0_2)).setCell ⟨gb312, 3, none⟩ (.bool a0_3)).setCell ⟨gb312, 4, none⟩ (.int .i64 a0_4)).setCell ⟨gb312, 5, none⟩ (.int .i64 a0_5)).setCell ⟨gb312, 6, none⟩ (.int .i64 a0_6)).setCell ⟨gb312, 7, none⟩ (.int .i64 a0_7)).setCell ⟨gb312, 8, none⟩ (.int .i64 a0_8)).setCell ⟨gb312, 9, none⟩ (.slice A0_9 l0_9.length c0_9)).setCell ⟨gb312, 10, none⟩ (.slice A0_10 l0_10.length c0_10))) ?hg ?ho ?hn ?hr ?_; (case ho => rfl); (case hg => rfl); (case hn => rfl); (case hr => first | (go_simp; done) | (go_simp; rfl)); intro w4005 hw; have n0_ : Aside0 (Kd.S kP 29 w4005 w.heap.size (fun k_ => (w.heap.size ≤ k_) ∧ k_ ≠ gb291 ∧ k_ ≠ gb312) u7 x7_3) := ⟨(by rw [hw]; exact (by (with_reducible repeat (first | apply Kd.S_alloc | apply Kd.S_drewN | apply Kd.S_drew)); exact Kd.S_mono (Kd.S_far (p := ⟨gb312, 10, none⟩) (Kd.S_far (p := ⟨gb312, 9, none⟩) (Kd.S_far (p := ⟨gb312, 8, none⟩) (Kd.S_far (p := ⟨gb312, 7, none⟩) (Kd.S_far (p := ⟨gb312, 6, none⟩) (Kd.S_far (p := ⟨gb312, 5, none⟩) (Kd.S_far (p := ⟨gb312, 4, none⟩) (Kd.S_far (p := ⟨gb312, 3, none⟩) (Kd.S_far (p := ⟨gb312, 2, none⟩) (Kd.S_far (p := ⟨gb312, 1, none⟩) (Kd.S_far (p := ⟨gb312, 0, none⟩) (Kd.S_mono HO_7.out (fun k_ hk => (⟨hk, hk.2⟩ : _ ∧ k_ ≠ gb312))) (fun _ hk => hk.2) (.int .i64 a0_0)) (fun _ hk => hk.2) (.int .i64 a0_1)) (fun _ hk => hk.2) (.bool a0_2)) (fun _ hk => hk.2) (.bool a0_3)) (fun _ hk => hk.2) (.int .i64 a0_4)) (fun _ hk => hk.2) (.int .i64 a0_5)) (fun _ hk => hk.2) (.int .i64 a0_6)) (fun _ hk => hk.2) (.int .i64 a0_7)) (fun _ hk => hk.2) (.int .i64 a0_8)) (fun _ hk => hk.2) (.slice A0_9 l0_9.length c0_9)) (fun _ hk => hk.2) (.slice A0_10 l0_10.length c0_10)) (fun _ hk => ⟨hk.1.1.1, ⟨hk.1.1.2, hk.1.2⟩⟩)))⟩; have n1_ : Aside0 (w4005.heap[gb291]? = some (.cells #[.int .i64 a0_0, .int .i64 a0_1, .bool a0_2, .bool a0_3, .int .i64 a0_4, .int .i64 a0_5, .int .i64 a0_6, .int .i64 a0_7, .int .i64 a0_8, .slice A0_9 l0_9.length c0_9, .slice A0_10 l0_10.length c0_10] 29 (0, 0))) := ⟨(by rw [hw]; exact (by (with_reducible repeat (first | refine blk_drewN ?_ _ | refine blk_drew ?_ | refine blk_alloc ?_ _)); refine blk_far ?_ NB291_312.out _; (with_reducible repeat (first | refine blk_drewN ?_ _ | refine blk_drew ?_ | refine blk_alloc ?_ _)); refine blk_far ?_ NB291_312.out _; (with_reducible repeat (first | refine blk_drewN ?_ _ | refine blk_drew ?_ | refine blk_alloc ?_ _)); refine blk_far ?_ NB291_312.out _; (with_reducible repeat (first | refine blk_drewN ?_ _ | refine blk_drew ?_ | refine blk_alloc ?_ _)); refine blk_far ?_ NB291_312.out _; (with_reducible repeat (first | refine blk_drewN ?_ _ | refine blk_drew ?_ | refine blk_alloc ?_ _)); refine blk_far ?_ NB291_312.out _; (with_reducible repeat (first | refine blk_drewN ?_ _ | refine blk_drew ?_ | refine blk_alloc ?_ _)); refine blk_far ?_ NB291_312.out _; (with_reducible repeat (first | refine blk_drewN ?_ _ | refine blk_drew ?_ | refine blk_alloc ?_ _)); refine blk_far ?_ NB291_312.out _; (with_reducible repeat (first | refine blk_drewN ?_ _ | refine blk_drew ?_ | refine blk_alloc ?_ _)); refine blk_far ?_ NB291_312.out _; (with_reducible repeat (first | refine blk_drewN ?_ _ | refine blk_drew ?_ | refine blk_alloc ?_ _)); refine blk_far ?_ NB291_312.out _; (with_reducible repeat (first | refine blk_drewN ?_ _ | refine blk_drew ?_ | refine blk_alloc ?_ _)); refine blk_far ?_ NB291_312.out _; (with_reducible repeat (first | refine blk_drewN ?_ _ | refine blk_drew ?_ | refine blk_alloc ?_ _)); refine blk_far ?_ NB291_312.out _; (with_reducible repeat (first | refine blk_drewN ?_ _ | refine blk_drew ?_ | refine blk_alloc ?_ _)); exact BK291.out))⟩; have n2_ : Aside0 (w4005.heap[gb312]? = some (.cells #[.int .i64 a0_0, .int .i64 a0_1, .bool a0_2, .bool a0_3, .int .i64 a0_4, .int .i64 a0_5, .int .i64 a0_6, .int .i64 a0_7, .int .i64 a0_8, .slice A0_9 l0_9.length c0_9, .slice A0_10 l0_10.length c0_10] 29 (0, 0))) := ⟨(by rw [hw]; exact (by (with_reducible repeat (first | refine blk_drewN ?_ _ | refine blk_drew ?_ | refine blk_alloc ?_ _)); refine blk_put (cs := #[.int .i64 a0_0, .int .i64 a0_1, .bool a0_2, .bool a0_3, .int .i64 a0_4, .int .i64 a0_5, .int .i64 a0_6, .int .i64 a0_7, .int .i64 a0_8, .slice A0_9 l0_9.length c0_9, .slice none 0 0]) ?_ 10 _ rfl; (with_reducible repeat (first | refine blk_drewN ?_ _ | refine blk_drew ?_ | refine blk_alloc ?_ _)); refine blk_put (cs := #[.int .i64 a0_0, .int .i64 a0_1, .bool a0_2, .bool a0_3, .int .i64 a0_4, .int .i64 a0_5, .int .i64 a0_6, .int .i64 a0_7, .int .i64 a0_8, .slice none 0 0, .slice none 0 0]) ?_ 9 _ rfl; (with_reducible repeat (first | refine blk_drewN ?_ _ | refine blk_drew ?_ | refine blk_alloc ?_ _)); refine blk_put (cs := #[.int .i64 a0_0, .int .i64 a0_1, .bool a0_2, .bool a0_3, .int .i64 a0_4, .int .i64 a0_5, .int .i64 a0_6, .int .i64 a0_7, .int .i64 0, .slice none 0 0, .slice none 0 0]) ?_ 8 _ rfl; (with_reducible repeat (first | refine blk_drewN ?_ _ | refine blk_drew ?_ | refine blk_alloc ?_ _)); refine blk_put (cs := #[.int .i64 a0_0, .int .i64 a0_1, .bool a0_2, .bool a0_3, .int .i64 a0_4, .int .i64 a0_5, .int .i64 a0_6, .int .i64 0, .int .i64 0, .slice none 0 0, .slice none 0 0]) ?_ 7 _ rfl; (with_reducible repeat (first | refine blk_drewN ?_ _ | refine blk_drew ?_ | refine blk_alloc ?_ _)); refine blk_put (cs := #[.int .i64 a0_0, .int .i64 a0_1, .bool a0_2, .bool a0_3, .int .i64 a0_4, .int .i64 a0_5, .int .i64 0, .int .i64 0, .int .i64 0, .slice none 0 0, .slice none 0 0]) ?_ 6 _ rfl; (with_reducible repeat (first | refine blk_drewN ?_ _ | refine blk_drew ?_ | refine blk_alloc ?_ _)); refine blk_put (cs := #[.int .i64 a0_0, .int .i64 a0_1, .bool a0_2, .bool a0_3, .int .i64 a0_4, .int .i64 0, .int .i64 0, .int .i64 0, .int .i64 0, .slice none 0 0, .slice none 0 0]) ?_ 5 _ rfl; (with_reducible repeat (first | refine blk_drewN ?_ _ | refine blk_drew ?_ | refine blk_alloc ?_ _)); refine blk_put (cs := #[.int .i64 a0_0, .int .i64 a0_1, .bool a0_2, .bool a0_3, .int .i64 0, .int .i64 0, .int .i64 0, .int .i64 0, .int .i64 0, .slice none 0 0, .slice none 0 0]) ?_ 4 _ rfl; (with_reducible repeat (first | refine blk_drewN ?_ _ | refine blk_drew ?_ | refine blk_alloc ?_ _)); refine blk_put (cs := #[.int .i64 a0_0, .int .i64 a0_1, .bool a0_2, .bool false, .int .i64 0, .int .i64 0, .int .i64 0, .int .i64 0, .int .i64 0, .slice none 0 0, .slice none 0 0]) ?_ 3 _ rfl; (with_reducible repeat (first | refine blk_drewN ?_ _ | refine blk_drew ?_ | refine blk_alloc ?_ _)); refine blk_put (cs := #[.int .i64 a0_0, .int .i64 a0_1, .bool false, .bool false, .int .i64 0, .int .i64 0, .int .i64 0, .int .i64 0, .int .i64 0, .slice none 0 0, .slice none 0 0]) ?_ 2 _ rfl; (with_reducible repeat (first | refine blk_drewN ?_ _ | refine blk_drew ?_ | refine blk_alloc ?_ _)); refine blk_put (cs := #[.int .i64 a0_0, .int .i64 0, .bool false, .bool false, .int .i64 0, .int .i64 0, .int .i64 0, .int .i64 0, .int .i64 0, .slice none 0 0, .slice none 0 0]) ?_ 1 _ rfl; (with_reducible repeat (first | refine blk_drewN ?_ _ | refine blk_drew ?_ | refine blk_alloc ?_ _)); refine blk_put (cs := #[.int .i64 0, .int .i64 0, .bool false, .bool false, .int .i64 0, .int .i64 0, .int .i64 0, .int .i64 0, .int .i64 0, .slice none 0 0, .slice none 0 0]) ?_ 0 _ rfl; (with_reducible repeat (first | refine blk_drewN ?_ _ | refine blk_drew ?_ | refine blk_alloc ?_ _)); exact BK312.out))⟩; have n3_ : Aside0 (Below w.heap.size w w4005) := ⟨(by rw [hw]; exact wB)⟩; clear hw; clear HO_7; clear BK291; clear BK312; clear HB; have HO_7 := n0_; have BK291 := n1_; have BK312 := n2_; have HB := n3_; clear n0_ n1_ n2_ n3_; obtain ⟨⟨hcz4006_0, hcz4006_1, hcz4006_2, hcz4006_3, hcz4006_4, hcz4006_5, hcz4006_6, hcz4006_7, hcz4006_8, hcz4006_9, hcz4006_10⟩, hfz4006_0, hfz4006_1, hfz4006_2, hfz4006_3, hfz4006_4, hfz4006_5, hfz4006_6, hfz4006_7, hfz4006_8, hfz4006_9, hfz4006_10⟩ := cells11 BK291.out) | ((with_reducible refine gate_callee (f := 22) rfl ?_); refine goesL_ (some 48) rfl rfl Try.func22 (by kernel_rfl) rfl #[.slice A0_9 l0_9.length c0_9] rfl wT ?_; (with_reducible refine (impl_dup.calls _ _ l0_9 t313 _ ?side1 ?side2 A3001.out).mono ?_); (case side1 => exact Kd.C_below HR0_9.out wB); (case side2 => exact HC0_9.out); rintro e w4007 ⟨v314, rfl, ho0, hb⟩; refine ⟨_, rfl, ?_⟩; have n0_ := Aside0.mk (Kd.S_elder' (by (with_reducible repeat (first | apply Kd.S_alloc | apply Kd.S_drewN | apply Kd.S_drew)); exact HO_7.out) (Kd.R_base ho0) hb); have n1_ := Aside0.mk (Kd.R_lower (Kd.R_newM (M := fun k_ => (w.heap.size ≤ k_)) ho0 (below_size wB) (fun k_ h_ => h_)) (below_size wB)); have n2_ := Aside0.mk (blk_below (Bh BK291) hb); have n3_ := Aside0.mk (blk_below (Bh BK312) hb); have n4_ := Aside0.mk (below_step wB hb); clear HO_7; clear BK291; clear BK312; clear HB; have HO_7 := n0_; have HO315 := n1_; have BK291 := n2_; have BK312 := n3_; have HB := n4_; clear n0_ n1_ n2_ n3_ n4_; (try clear hb); (try clear hb2); (try clear hk); (try clear hi); (try clear ho0); obtain ⟨Ao4008, co4008, eo4008⟩ := Kd.R_slice HO315.out; subst eo4008; obtain ⟨⟨hcz4009_0, hcz4009_1, hcz4009_2, hcz4009_3, hcz4009_4, hcz4009_5, hcz4009_6, hcz4009_7, hcz4009_8, hcz4009_9, hcz4009_10⟩, hfz4009_0, hfz4009_1, hfz4009_2, hfz4009_3, hfz4009_4, hfz4009_5, hfz4009_6, hfz4009_7, hfz4009_8, hfz4009_9, hfz4009_10⟩ := cells11 BK312.out; obtain ⟨⟨hcz4010_0, hcz4010_1, hcz4010_2, hcz4010_3, hcz4010_4, hcz4010_5, hcz4010_6, hcz4010_7, hcz4010_8, hcz4010_9, hcz4010_10⟩, hfz4010_0, hfz4010_1, hfz4010_2, hfz4010_3, hfz4010_4, hfz4010_5, hfz4010_6, hfz4010_7, hfz4010_8, hfz4010_9, hfz4010_10⟩ := cells11 BK291.out) | ((with_reducible refine gate_store (t := 2) (p := 54) rfl ?_); refine store_event (t := 2) (p := 54) (v := ?vo_w4011) (w1 := ((w4007.setCell ⟨gb312, 9, none⟩ (.slice Ao4008 t313.length co4008)).setCell ⟨gb312, 4, none⟩ (.int .i64 (wrap64 (a0_4 + x9_3))))) ?hg ?ho ?hn ?hr ?_; (case ho => rfl); (case hg => rfl); (case hn => rfl); (case hr => first | (go_simp; done) | (go_simp; rfl)); intro w4011 hw; have n0_ : Aside0 (Kd.S kP 29 w4011 w.heap.size (fun k_ => (w.heap.size ≤ k_) ∧ some k_ ≠ (.slice Ao4008 t313.length co4008 : Value).ownBlock ∧ k_ ≠ gb291 ∧ k_ ≠ gb312) u7 x7_3) := ⟨(by rw [hw]; exact (by (with_reducible repeat (first | apply Kd.S_alloc | apply Kd.S_drewN | apply Kd.S_drew)); exact Kd.S_mono (Kd.S_far (p := ⟨gb312, 4, none⟩) (Kd.S_far (p := ⟨gb312, 9, none⟩) (Kd.S_mono HO_7.out (fun k_ hk => (⟨hk, hk.1.2.2⟩ : _ ∧ k_ ≠ gb312))) (fun _ hk => hk.2) (.slice Ao4008 t313.length co4008)) (fun _ hk => hk.2) (.int .i64 (wrap64 (a0_4 + x9_3)))) (fun _ hk => ⟨hk.1.1.1, ⟨hk.1.2, ⟨hk.1.1.2.1, hk.1.1.2.2⟩⟩⟩)))⟩; have n1_ : Aside0 (Kd.R (Kd.int .u8) 5 w4011 w.heap.size (fun k_ => (w.heap.size ≤ k_)) (.slice Ao4008 t313.length co4008) t313) := ⟨(by rw [hw]; exact (by (with_reducible repeat (first | apply Kd.R_alloc | apply Kd.R_drewN | apply Kd.R_drew)); exact Kd.R_mono (Kd.R_far (p := ⟨gb312, 4, none⟩) (Kd.R_far (p := ⟨gb312, 9, none⟩) (Kd.R_types HO315.out BK312.out (by decide)) (fun _ hk => hk.2) (.slice Ao4008 t313.length co4008)) (fun _ hk => hk.2) (.int .i64 (wrap64 (a0_4 + x9_3)))) (fun _ hk => hk.1.1)))⟩; have n2_ : Aside0 (w4011.heap[gb291]? = some (.cells #[.int .i64 a0_0, .int .i64 a0_1, .bool a0_2, .bool a0_3, .int .i64 a0_4, .int .i64 a0_5, .int .i64 a0_6, .int .i64 a0_7, .int .i64 a0_8, .slice A0_9 l0_9.length c0_9, .slice A0_10 l0_10.length c0_10] 29 (0, 0))) := ⟨(by rw [hw]; exact (by (with_reducible repeat (first | refine blk_drewN ?_ _ | refine blk_drew ?_ | refine blk_alloc ?_ _)); refine blk_far ?_ NB291_312.out _; (with_reducible repeat (first | refine blk_drewN ?_ _ | refine blk_drew ?_ | refine blk_alloc ?_ _)); refine blk_far ?_ NB291_312.out _; (with_reducible repeat (first | refine blk_drewN ?_ _ | refine blk_drew ?_ | refine blk_alloc ?_ _)); exact BK291.out))⟩; have n3_ : Aside0 (w4011.heap[gb312]? = some (.cells #[.int .i64 a0_0, .int .i64 a0_1, .bool a0_2, .bool a0_3, .int .i64 (wrap64 (a0_4 + x9_3)), .int .i64 a0_5, .int .i64 a0_6, .int .i64 a0_7, .int .i64 a0_8, .slice Ao4008 t313.length co4008, .slice A0_10 l0_10.length c0_10] 29 (0, 0))) := ⟨(by rw [hw]; exact (by (with_reducible repeat (first | refine blk_drewN ?_ _ | refine blk_drew ?_ | refine blk_alloc ?_ _)); refine blk_put (cs := #[.int .i64 a0_0, .int .i64 a0_1, .bool a0_2, .bool a0_3, .int .i64 a0_4, .int .i64 a0_5, .int .i64 a0_6, .int .i64 a0_7, .int .i64 a0_8, .slice Ao4008 t313.length co4008, .slice A0_10 l0_10.length c0_10]) ?_ 4 _ rfl; (with_reducible repeat (first | refine blk_drewN ?_ _ | refine blk_drew ?_ | refine blk_alloc ?_ _)); refine blk_put (cs := #[.int .i64 a0_0, .int .i64 a0_1, .bool a0_2, .bool a0_3, .int .i64 a0_4, .int .i64 a0_5, .int .i64 a0_6, .int .i64 a0_7, .int .i64 a0_8, .slice A0_9 l0_9.length c0_9, .slice A0_10 l0_10.length c0_10]) ?_ 9 _ rfl; (with_reducible repeat (first | refine blk_drewN ?_ _ | refine blk_drew ?_ | refine blk_alloc ?_ _)); exact BK312.out))⟩; have n4_ : Aside0 (Below w.heap.size w w4011) := ⟨(by rw [hw]; exact wB)⟩; clear hw; clear HO_7; clear HO315; clear BK291; clear BK312; clear HB; have HO_7 := n0_; have HO315 := n1_; have BK291 := n2_; have BK312 := n3_; have HB := n4_; clear n0_ n1_ n2_ n3_ n4_; obtain ⟨⟨hcz4012_0, hcz4012_1, hcz4012_2, hcz4012_3, hcz4012_4, hcz4012_5, hcz4012_6, hcz4012_7, hcz4012_8, hcz4012_9, hcz4012_10⟩, hfz4012_0, hfz4012_1, hfz4012_2, hfz4012_3, hfz4012_4, hfz4012_5, hfz4012_6, hfz4012_7, hfz4012_8, hfz4012_9, hfz4012_10⟩ := cells11 BK291.out; obtain ⟨⟨hcz4013_0, hcz4013_1, hcz4013_2, hcz4013_3, hcz4013_4, hcz4013_5, hcz4013_6, hcz4013_7, hcz4013_8, hcz4013_9, hcz4013_10⟩, hfz4013_0, hfz4013_1, hfz4013_2, hfz4013_3, hfz4013_4, hfz4013_5, hfz4013_6, hfz4013_7, hfz4013_8, hfz4013_9, hfz4013_10⟩ := cells11 BK312.out; obtain ⟨i04014, hi04014, _, hsz4014, _⟩ := info_parts info5; obtain ⟨A4014, hcut4014, hA4014, hC4014⟩ := print_mid_of (P := Try.prog) (Value.int .u8) 0 22 5 .i64 .i64 Try.underlying22 hi04014 hsz4014 A0_10 c0_10 l0_10 x9_3 (wrap64 (x9_3 + (wrap64 ((wrap64 (Int.tdiv (wrap64 ((wrap64 (a1 - 20)) - (l0_9.length : Int))) 8)) * 8)))) (of_decide_eq_true (by first | (with_reducible assumption) | assumption)) (by first | omega | exact of_decide_eq_true (by first | (with_reducible assumption) | assumption)) (of_decide_eq_true (by first | (with_reducible assumption) | assumption)) HC0_10.out; have HR323 := Aside0.mk (Kd.C_of_reads (h1 := fun _ => rfl) (hA4014 _ (Kd.reads_of_C HR0_10.out))); have HC323 := Aside0.mk hC4014; clear hA4014 hC4014 hi04014 hsz4014) | ((with_reducible refine gate_callee (f := 22) rfl ?_); refine goesL_ (some 81) rfl rfl Try.func22 (by kernel_rfl) rfl #[.slice A4014 ((l0_10.take ((wrap64 (x9_3 + (wrap64 ((wrap64 (Int.tdiv (wrap64 ((wrap64 (a1 - 20)) - (l0_9.length : Int))) 8)) * 8)))) : Int).toNat).drop (x9_3 : Int).toNat).length (c0_10 - x9_3.toNat)] rfl (by (try simp only [List.map_toArray, List.map_cons, List.map_nil]); first | done | (rw [show ((l0_10.take ((wrap64 (x9_3 + (wrap64 ((wrap64 (Int.tdiv (wrap64 ((wrap64 (a1 - 20)) - (l0_9.length : Int))) 8)) * 8)))) : Int).toNat).drop (x9_3 : Int).toNat).length = ((wrap64 (x9_3 + (wrap64 ((wrap64 (Int.tdiv (wrap64 ((wrap64 (a1 - 20)) - (l0_9.length : Int))) 8)) * 8)))).toNat - x9_3.toNat) from (by rw [List.length_drop, List.length_take]; have h_ : ((wrap64 (x9_3 + (wrap64 ((wrap64 (Int.tdiv (wrap64 ((wrap64 (a1 - 20)) - (l0_9.length : Int))) 8)) * 8)))) : Int) ≤ (l0_10.length : Int) := of_decide_eq_true (by first | (with_reducible assumption) | assumption); omega)] <;> rfl) | rfl | (simp only [List.length_drop, List.length_take]; rfl)) ?_; (with_reducible refine (impl_dup.calls _ _ ((l0_10.take ((wrap64 (x9_3 + (wrap64 ((wrap64 (Int.tdiv (wrap64 ((wrap64 (a1 - 20)) - (l0_9.length : Int))) 8)) * 8)))) : Int).toNat).drop (x9_3 : Int).toNat) t324 _ ?side1 ?side2 A3010.out).mono ?_); (case side1 => exact Kd.C_below HR323.out wB); (case side2 => exact HC323.out); rintro e w4015 ⟨v325, rfl, ho0, hb⟩; refine ⟨_, rfl, ?_⟩; have n0_ := Aside0.mk (Kd.S_elder' (by (with_reducible repeat (first | apply Kd.S_alloc | apply Kd.S_drewN | apply Kd.S_drew)); exact (Kd.S_mono (Kd.S_far (p := ⟨gb312, 3, none⟩) (Kd.S_mono HO_7.out (fun k_ hk => (⟨hk, hk.2.2.2⟩ : _ ∧ k_ ≠ gb312))) (fun _ hk => hk.2) (.bool true)) (fun _ h_ => h_.1))) (Kd.R_base ho0) hb); have n1_ := Aside0.mk (Kd.R_elder' (by (with_reducible repeat (first | apply Kd.R_alloc | apply Kd.R_drewN | apply Kd.R_drew)); exact (Kd.R_mono (Kd.R_far (p := ⟨gb312, 3, none⟩) (Kd.R_types HO315.out BK312.out (by decide)) (fun _ hk => hk.2) (.bool true)) (fun _ h_ => h_.1))) (Kd.R_base ho0) hb); have n2_ := Aside0.mk (Kd.R_lower (Kd.R_new' (Kd.R_newM (M := fun k_ => (w.heap.size ≤ k_)) ho0 (below_size wB) (fun k_ h_ => h_)) (Kd.R_lt (by (with_reducible repeat (first | apply Kd.R_alloc | apply Kd.R_drewN | apply Kd.R_drew)); exact (Kd.R_mono (Kd.R_far (p := ⟨gb312, 3, none⟩) (Kd.R_types HO315.out BK312.out (by decide)) (fun _ hk => hk.2) (.bool true)) (fun _ h_ => h_.1))))) (below_size wB)); have n3_ := Aside0.mk (blk_below (g := gb291) (o := .cells #[.int .i64 a0_0, .int .i64 a0_1, .bool a0_2, .bool a0_3, .int .i64 a0_4, .int .i64 a0_5, .int .i64 a0_6, .int .i64 a0_7, .int .i64 a0_8, .slice A0_9 l0_9.length c0_9, .slice A0_10 l0_10.length c0_10] 29 (0, 0)) (by (with_reducible repeat (first | refine blk_drewN ?_ _ | refine blk_drew ?_ | refine blk_alloc ?_ _)); refine blk_far ?_ NB291_312.out _; (with_reducible repeat (first | refine blk_drewN ?_ _ | refine blk_drew ?_ | refine blk_alloc ?_ _)); exact BK291.out) hb); have n4_ := Aside0.mk (blk_below (g := gb312) (o := .cells #[.int .i64 a0_0, .int .i64 a0_1, .bool a0_2, .bool true, .int .i64 (wrap64 (a0_4 + x9_3)), .int .i64 a0_5, .int .i64 a0_6, .int .i64 a0_7, .int .i64 a0_8, .slice Ao4008 t313.length co4008, .slice A0_10 l0_10.length c0_10] 29 (0, 0)) (by (with_reducible repeat (first | refine blk_drewN ?_ _ | refine blk_drew ?_ | refine blk_alloc ?_ _)); refine blk_put (cs := #[.int .i64 a0_0, .int .i64 a0_1, .bool a0_2, .bool a0_3, .int .i64 (wrap64 (a0_4 + x9_3)), .int .i64 a0_5, .int .i64 a0_6, .int .i64 a0_7, .int .i64 a0_8, .slice Ao4008 t313.length co4008, .slice A0_10 l0_10.length c0_10]) ?_ 3 _ rfl; (with_reducible repeat (first | refine blk_drewN ?_ _ | refine blk_drew ?_ | refine blk_alloc ?_ _)); exact BK312.out) hb); have n5_ := Aside0.mk (below_step wB hb); clear HO_7; clear HO315; clear BK291; clear BK312; clear HB; have HO_7 := n0_; have HO315 := n1_; have HO326 := n2_; have BK291 := n3_; have BK312 := n4_; have HB := n5_; clear n0_ n1_ n2_ n3_ n4_ n5_; (try clear hb); (try clear hb2); (try clear hk); (try clear hi); (try clear ho0); obtain ⟨Ao4016, co4016, eo4016⟩ := Kd.R_slice HO326.out; subst eo4016; obtain ⟨⟨hcz4017_0, hcz4017_1, hcz4017_2, hcz4017_3, hcz4017_4, hcz4017_5, hcz4017_6, hcz4017_7, hcz4017_8, hcz4017_9, hcz4017_10⟩, hfz4017_0, hfz4017_1, hfz4017_2, hfz4017_3, hfz4017_4, hfz4017_5, hfz4017_6, hfz4017_7, hfz4017_8, hfz4017_9, hfz4017_10⟩ := cells11 BK312.out) | ((with_reducible refine gate_store (t := 22) (p := 82) rfl ?_); refine store_event (t := 22) (p := 82) (v := ?vo_w4018) (w1 := (w4015.setCell ⟨gb312, 10, none⟩ (.slice Ao4016 t324.length co4016))) ?hg ?ho ?hn ?hr ?_; (case ho => rfl); (case hg => rfl); (case hn => rfl); (case hr => first | (go_simp; done) | (go_simp; rfl)); intro w4018 hw; have n0_ : Aside0 (Kd.S kP 29 w4018 w.heap.size (fun k_ => (w.heap.size ≤ k_) ∧ some k_ ≠ (.slice Ao4008 t313.length co4008 : Value).ownBlock ∧ some k_ ≠ (.slice Ao4016 t324.length co4016 : Value).ownBlock ∧ k_ ≠ gb291 ∧ k_ ≠ gb312) u7 x7_3) := ⟨(by rw [hw]; exact (by (with_reducible repeat (first | apply Kd.S_alloc | apply Kd.S_drewN | apply Kd.S_drew)); exact Kd.S_mono (Kd.S_far (p := ⟨gb312, 10, none⟩) (Kd.S_mono HO_7.out (fun k_ hk => (⟨hk, hk.1.2.2.2⟩ : _ ∧ k_ ≠ gb312))) (fun _ hk => hk.2) (.slice Ao4016 t324.length co4016)) (fun _ hk => ⟨hk.1.1.1, ⟨hk.1.1.2.1, ⟨hk.1.2, ⟨hk.1.1.2.2.1, hk.1.1.2.2.2⟩⟩⟩⟩)))⟩; have n1_ : Aside0 (Kd.R (Kd.int .u8) 5 w4018 w.heap.size (fun k_ => (w.heap.size ≤ k_) ∧ some k_ ≠ (.slice Ao4016 t324.length co4016 : Value).ownBlock) (.slice Ao4008 t313.length co4008) t313) := ⟨(by rw [hw]; exact (by (with_reducible repeat (first | apply Kd.R_alloc | apply Kd.R_drewN | apply Kd.R_drew)); exact Kd.R_mono (Kd.R_far (p := ⟨gb312, 10, none⟩) (Kd.R_types HO315.out BK312.out (by decide)) (fun _ hk => hk.2) (.slice Ao4016 t324.length co4016)) (fun _ hk => ⟨hk.1.1, hk.1.2⟩)))⟩; have n2_ : Aside0 (Kd.R (Kd.int .u8) 5 w4018 w.heap.size (fun k_ => (w.heap.size ≤ k_) ∧ some k_ ≠ (.slice Ao4008 t313.length co4008 : Value).ownBlock) (.slice Ao4016 t324.length co4016) t324) := ⟨(by rw [hw]; exact (by (with_reducible repeat (first | apply Kd.R_alloc | apply Kd.R_drewN | apply Kd.R_drew)); exact Kd.R_mono (Kd.R_far (p := ⟨gb312, 10, none⟩) (Kd.R_types HO326.out BK312.out (by decide)) (fun _ hk => hk.2) (.slice Ao4016 t324.length co4016)) (fun _ hk => ⟨hk.1.1.1, hk.1.2⟩)))⟩; have n3_ : Aside0 (w4018.heap[gb291]? = some (.cells #[.int .i64 a0_0, .int .i64 a0_1, .bool a0_2, .bool a0_3, .int .i64 a0_4, .int .i64 a0_5, .int .i64 a0_6, .int .i64 a0_7, .int .i64 a0_8, .slice A0_9 l0_9.length c0_9, .slice A0_10 l0_10.length c0_10] 29 (0, 0))) := ⟨(by rw [hw]; exact (by (with_reducible repeat (first | refine blk_drewN ?_ _ | refine blk_drew ?_ | refine blk_alloc ?_ _)); refine blk_far ?_ NB291_312.out _; (with_reducible repeat (first | refine blk_drewN ?_ _ | refine blk_drew ?_ | refine blk_alloc ?_ _)); exact BK291.out))⟩; have n4_ : Aside0 (w4018.heap[gb312]? = some (.cells #[.int .i64 a0_0, .int .i64 a0_1, .bool a0_2, .bool true, .int .i64 (wrap64 (a0_4 + x9_3)), .int .i64 a0_5, .int .i64 a0_6, .int .i64 a0_7, .int .i64 a0_8, .slice Ao4008 t313.length co4008, .slice Ao4016 t324.length co4016] 29 (0, 0))) := ⟨(by rw [hw]; exact (by (with_reducible repeat (first | refine blk_drewN ?_ _ | refine blk_drew ?_ | refine blk_alloc ?_ _)); refine blk_put (cs := #[.int .i64 a0_0, .int .i64 a0_1, .bool a0_2, .bool true, .int .i64 (wrap64 (a0_4 + x9_3)), .int .i64 a0_5, .int .i64 a0_6, .int .i64 a0_7, .int .i64 a0_8, .slice Ao4008 t313.length co4008, .slice A0_10 l0_10.length c0_10]) ?_ 10 _ rfl; (with_reducible repeat (first | refine blk_drewN ?_ _ | refine blk_drew ?_ | refine blk_alloc ?_ _)); exact BK312.out))⟩; have n5_ : Aside0 (Below w.heap.size w w4018) := ⟨(by rw [hw]; exact wB)⟩; clear hw; clear HO_7; clear HO315; clear HO326; clear BK291; clear BK312; clear HB; have HO_7 := n0_; have HO315 := n1_; have HO326 := n2_; have BK291 := n3_; have BK312 := n4_; have HB := n5_; clear n0_ n1_ n2_ n3_ n4_ n5_; obtain ⟨⟨hcz4019_0, hcz4019_1, hcz4019_2, hcz4019_3, hcz4019_4, hcz4019_5, hcz4019_6, hcz4019_7, hcz4019_8, hcz4019_9, hcz4019_10⟩, hfz4019_0, hfz4019_1, hfz4019_2, hfz4019_3, hfz4019_4, hfz4019_5, hfz4019_6, hfz4019_7, hfz4019_8, hfz4019_9, hfz4019_10⟩ := cells11 BK312.out) | ((with_reducible refine gate_builtin (b := .append) (xs := #[.tmp 83, .tmp 85]) rfl ?_); at_builtin; refine Kd.S_append kP (w0 := w) w.heap.size rfl (.tmp 83) (.tmp 85) 26 29 (.agg #[(.int .i64 0), (.int .i64 0), (.bool false), (.bool false), (.int .i64 0), (.int .i64 0), (.int .i64 0), (.int .i64 0), (.int .i64 0), (.slice none 0 0), (.slice none 0 0)]) 112 rfl Try.underlying26 info29 rfl (by decide) (by omega) u7 x7_3 (⟨a0_0, a0_1, a0_2, true, wrap64 (a0_4 + x9_3), a0_5, a0_6, a0_7, a0_8, t313, t324⟩ : S29) [.int .i64 a0_0, .int .i64 a0_1, .bool a0_2, .bool true, .int .i64 (wrap64 (a0_4 + x9_3)), .int .i64 a0_5, .int .i64 a0_6, .int .i64 a0_7, .int .i64 a0_8, .slice Ao4008 t313.length co4008, .slice Ao4016 t324.length co4016] (fun k_ => (w.heap.size ≤ k_) ∧ k_ ≠ gb291 ∧ k_ ≠ gb312) (fun k_ => some k_ = (.slice Ao4008 t313.length co4008 : Value).ownBlock ∨ some k_ = (.slice Ao4016 t324.length co4016 : Value).ownBlock) rfl rfl ?aP ?aK ?aF ?aO ?aB ?aS ?aL ?_; (case aP => exact ⟨k29_mkM _ _ _ (⟨a0_0, a0_1, a0_2, true, wrap64 (a0_4 + x9_3), a0_5, a0_6, a0_7, a0_8, t313, t324⟩ : S29) (Kd.R_mono (Kd.R_tight rfl HO315.out) (fun _ hk => Or.inl hk)) (Kd.R_mono (Kd.R_tight rfl HO326.out) (fun _ hk => Or.inr hk)), fun k_ e_ e2_ => (HO315.out.1 k_ e_).2 (Eq.symm e2_)⟩); (case aK => exact fun k_ hk => hk.elim (fun e_ => ((Kd.R_mono (ok' := (fun k_ => ((fun k_ => (w.heap.size ≤ k_) ∧ k_ ≠ gb291 ∧ k_ ≠ gb312)) k_ ∧ some k_ ≠ (u7 : Value).ownBlock)) (Kd.R_types (Kd.R_types (Kd.R_apart' (HO315.out) (Kd.S_typed HO_7.out) (by decide)) BK291.out (by decide)) BK312.out (by decide)) (fun k_ hk => ⟨⟨hk.1.1.1.1, ⟨hk.1.2, hk.2⟩⟩, hk.1.1.2⟩))).1 k_ (Eq.symm e_)) (fun e_ => ((Kd.R_mono (ok' := (fun k_ => ((fun k_ => (w.heap.size ≤ k_) ∧ k_ ≠ gb291 ∧ k_ ≠ gb312)) k_ ∧ some k_ ≠ (u7 : Value).ownBlock)) (Kd.R_types (Kd.R_types (Kd.R_apart' (HO326.out) (Kd.S_typed HO_7.out) (by decide)) BK291.out (by decide)) BK312.out (by decide)) (fun k_ hk => ⟨⟨hk.1.1.1.1, ⟨hk.1.2, hk.2⟩⟩, hk.1.1.2⟩))).1 k_ (Eq.symm e_))); (case aB => exact wB); (case aF => exact (fun k_ hk => ⟨(Nat.le_trans (below_size wB) hk), Kd.freshB (Bh BK291) k_ hk, Kd.freshB (Bh BK312) k_ hk⟩)); (case aO => exact (by (with_reducible repeat (first | apply Kd.S_alloc | apply Kd.S_drewN | apply Kd.S_drew)); exact Kd.S_mono HO_7.out (fun _ hk => ⟨⟨hk.1, ⟨hk.2.2.2.1, hk.2.2.2.2⟩⟩, fun h_ => h_.elim hk.2.1 hk.2.2.1⟩))); (case aS => exact (below_size wB)); (case aL => have := LMc3011.out; omega); intro v328 w4020 ho hb hg hat; rw [← Ny327.out] at ho; have n0_ := Aside0.mk (blk_grown (Bh BK291) hg (Kd.S_away HO_7.out (fun _ hk => hk.2.2.2.1))); have n1_ := Aside0.mk (blk_grown (Bh BK312) hg (Kd.S_away HO_7.out (fun _ hk => hk.2.2.2.2))); have n2_ := Aside0.mk (hb); have n3_ := Aside0.mk (ho); clear BK291; clear BK312; clear HB; clear HO_7; clear HO315; clear HO326; have BK291 := n0_; have BK312 := n1_; have HB := n2_; have HO329 := n3_; clear n0_ n1_ n2_ n3_; clear ho hb hg hat))
                              go_roundg k3
                              case measure => have := HJ2.out; have := HJ1008.out; have := HK3.out; omega
                              case rel => exact ⟨(y327), (wrap64 (x9_3 + (wrap64 ((wrap64 (Int.tdiv (wrap64 ((wrap64 (a1 - 20)) - (l0_9.length : Int))) 8)) * 8)))), (by first | rfl | (simp; done) | (simp [*]; done)), H', ⟨by have := HJ2.out; have := HJ1008.out; have := HK3.out; omega⟩, ⟨by (with_reducible repeat (first | apply Kd.S_alloc | apply Kd.S_drewN | apply Kd.S_drew)); exact Kd.S_mono HO329.out (fun _ hk => ⟨hk.1, hk.2.1⟩)⟩, ⟨Bh BK291⟩, ⟨wB⟩⟩
                            · rw [if_neg c3011] at H
                              exact absurd H (by simp)
                          · rw [if_neg c3009] at H
                            exact absurd H (by simp)
                        · rw [if_neg c3008] at H
                          exact absurd H (by simp)
                      · rw [if_neg c3007] at H
                        exact absurd H (by simp)



/-! ### laws_eqByteS: function 23 -/
def laws_eqByteS.l0 : Nat → List Int → List Int → Int → Option (Bool)
  | 0, _, _, _ => none
  | k + 1, x0, x1, x5 => if x5 < (x0.length : Int) then (if 0 ≤ x5 then (if x5 < (x1.length : Int) then (if (rd x0 x5) = (rd x1 x5) then (laws_eqByteS.l0 k x0 x1 (wrap64 (x5 + 1))) else (some false)) else (none)) else (none)) else (some true)
def laws_eqByteS.f (k : Nat) (l0 : List Int) (l1 : List Int) : Option (Bool) := if (l0.length : Int) = (l1.length : Int) then (laws_eqByteS.l0 k l0 l1 0) else (some false)
theorem laws_eqByteS.mono_l : ∀ k, (∀ y0 y1 y2, LeO (laws_eqByteS.l0 k y0 y1 y2) (laws_eqByteS.l0 (k + 1) y0 y1 y2))
  | 0 => fun _ _ _ r h => by simp [laws_eqByteS.l0] at h
  | k + 1 => by
    have ih0 := laws_eqByteS.mono_l k
    · intro y0 y1 y2
      unfold laws_eqByteS.l0
      repeat' first
      | (with_reducible exact ih0 _ _ _)
      | (with_reducible exact LeO.refl _)
      | (with_reducible exact LeO.none _)
      | (with_reducible refine LeO.ite ?_ ?_)
      | (with_reducible refine LeO.bind ?_ (fun _ => ?_))
      | exact ih0 _ _ _
      | exact LeO.none _
      | refine LeO.ite ?_ ?_
      | refine LeO.bind ?_ (fun _ => ?_)
theorem laws_eqByteS.mono : ∀ a0 a1 k, LeO (laws_eqByteS.f k a0 a1) (laws_eqByteS.f (k + 1) a0 a1) := by
  intro a0 a1 k
  have ih0 := laws_eqByteS.mono_l k
  unfold laws_eqByteS.f
  repeat' first
      | (with_reducible exact ih0 _ _ _)
      | (with_reducible exact LeO.refl _)
      | (with_reducible exact LeO.none _)
      | (with_reducible refine LeO.ite ?_ ?_)
      | (with_reducible refine LeO.bind ?_ (fun _ => ?_))
      | exact ih0 _ _ _
      | exact LeO.none _
      | refine LeO.ite ?_ ?_
      | refine LeO.bind ?_ (fun _ => ?_)
set_option maxHeartbeats 60000000 in
set_option maxRecDepth 100000 in
theorem laws_eqByteS.calls (k : Nat) (A0 : Option Addr) (c0 : Nat) (l0 : List Int) (A1 : Option Addr) (c1 : Nat) (l1 : List Int) (r : Bool) (w : World) (hr0 : Kd.C (Kd.int .u8) w A0 l0.length l0) (hc0 : l0.length ≤ c0) (hr1 : Kd.C (Kd.int .u8) w A1 l1.length l1) (hc1 : l1.length ≤ c1) (h : laws_eqByteS.f k l0 l1 = some r) :
    Calls Try.prog 23 #[.slice A0 l0.length c0, .slice A1 l1.length c1] w fun e w' => e = .returned (.bool r) ∧ Drawn0 w w' := by
  have HR0 := Aside0.mk hr0
  have HC0 := Aside0.mk hc0
  clear hr0 hc0
  have HR1 := Aside0.mk hr1
  have HC1 := Aside0.mk hc1
  clear hr1 hc1
  have H : (if (l0.length : Int) = (l1.length : Int) then (laws_eqByteS.l0 k l0 l1 0) else (some false)) = some r := h
  clear h
  by_cases c3 : (l0.length : Int) = (l1.length : Int)
  · rw [if_pos c3] at H
    have c3b0 : ((l0.length : Int) == (l1.length : Int)) = true := beq_iff_eq.mpr c3
    have c3b1 : ((l0.length : Int) != (l1.length : Int)) = false := bne_eq_false_iff_eq.mpr c3
    have c3b2 : (l0.length == l1.length) = true := by first | simpa using c3 | (simp at c3 ⊢; omega)
    clear c3
    have H' := Aside0.mk H
    clear H
    go_enter Try.func23, Try.ntmps23
    go_wp2
    repeat (go_quiet (fail); try go_wp2)
    go_loopg [5] k (fun kq v5 w' => ∃ (x5_1 : Int), v5 = .int .i64 x5_1 ∧ Aside0 (laws_eqByteS.l0 kq l0 l1 x5_1 = some r) ∧ Aside0 (kq ≤ k) ∧ Drawn0 w w')
    case atStart => exact ⟨(0), (by first | rfl | (simp; done) | (simp [*]; done)), H', ⟨Nat.le_refl _⟩, by repeat (first | exact Drawn0.refl _ | apply Drawn0.step)⟩
    case round =>
      clear H'
      try clear c3
      try clear c3b0
      try clear c3b1
      try clear c3b2
      obtain ⟨x5_1, rfl, HA, HK1, ⟨m1, rfl⟩⟩ := hrel
      cases gk with
      | zero => exact absurd HA.out (by simp [laws_eqByteS.l0])
      | succ k1 =>
        have H := HA.out
        clear HA
        simp only [laws_eqByteS.l0] at H
        by_cases c1001 : x5_1 < (l0.length : Int)
        · rw [if_pos c1001] at H
          have c1001b0 : decide (x5_1 < (l0.length : Int)) = true := decide_eq_true c1001
          clear c1001
          by_cases c1002 : 0 ≤ x5_1
          · rw [if_pos c1002] at H
            have c1002b0 : decide (0 ≤ x5_1) = true := decide_eq_true c1002
            clear c1002
            by_cases c1003 : x5_1 < (l1.length : Int)
            · rw [if_pos c1003] at H
              have c1003b0 : decide (x5_1 < (l1.length : Int)) = true := decide_eq_true c1003
              clear c1003
              by_cases c1004 : (rd l0 x5_1) = (rd l1 x5_1)
              · rw [if_pos c1004] at H
                have c1004b0 : ((rd l0 x5_1) == (rd l1 x5_1)) = true := beq_iff_eq.mpr c1004
                have c1004b1 : ((rd l0 x5_1) != (rd l1 x5_1)) = false := bne_eq_false_iff_eq.mpr c1004
                clear c1004
                have H' := Aside0.mk H
                clear H
                have p291 : 0 ≤ (x5_1 : Int) := of_decide_eq_true (by first | (with_reducible assumption) | assumption)
                have q291 : x5_1 < (l0.length : Int) := of_decide_eq_true (by first | (with_reducible assumption) | assumption)
                obtain ⟨ad291, e291, hx291_0⟩ := Kd.at_int HR0.out x5_1 p291 q291
                cases e291
                replace p291 := eq_true p291
                replace q291 := eq_true q291
                have p292 : 0 ≤ (x5_1 : Int) := of_decide_eq_true (by first | (with_reducible assumption) | assumption)
                have q292 : x5_1 < (l1.length : Int) := of_decide_eq_true (by first | (with_reducible assumption) | assumption)
                obtain ⟨ad292, e292, hx292_0⟩ := Kd.at_int HR1.out x5_1 p292 q292
                cases e292
                replace p292 := eq_true p292
                replace q292 := eq_true q292
                go_wp2
                repeat (go_quiet (fail); try go_wp2)
                go_roundg k1
                case measure => have := HK1.out; omega
                case rel => exact ⟨(wrap64 (x5_1 + 1)), (by first | rfl | (simp; done) | (simp [*]; done)), H', ⟨by have := HK1.out; omega⟩, by repeat (first | exact Drawn0.refl _ | apply Drawn0.step)⟩
              · rw [if_neg c1004] at H
                have c1004b0 : ((rd l0 x5_1) == (rd l1 x5_1)) = false := beq_eq_false_iff_ne.mpr c1004
                have c1004b1 : ((rd l0 x5_1) != (rd l1 x5_1)) = true := bne_iff_ne.mpr c1004
                obtain rfl := Option.some.inj H
                have p291 : 0 ≤ (x5_1 : Int) := of_decide_eq_true (by first | (with_reducible assumption) | assumption)
                have q291 : x5_1 < (l0.length : Int) := of_decide_eq_true (by first | (with_reducible assumption) | assumption)
                obtain ⟨ad291, e291, hx291_0⟩ := Kd.at_int HR0.out x5_1 p291 q291
                cases e291
                replace p291 := eq_true p291
                replace q291 := eq_true q291
                have p292 : 0 ≤ (x5_1 : Int) := of_decide_eq_true (by first | (with_reducible assumption) | assumption)
                have q292 : x5_1 < (l1.length : Int) := of_decide_eq_true (by first | (with_reducible assumption) | assumption)
                obtain ⟨ad292, e292, hx292_0⟩ := Kd.at_int HR1.out x5_1 p292 q292
                cases e292
                replace p292 := eq_true p292
                replace q292 := eq_true q292
                go_wp2
                repeat (go_quiet (fail); try go_wp2)
                go_ret
                exact ⟨by first | rfl | (simp; done) | (simp [*]; done), by repeat (first | exact Drawn0.refl _ | apply Drawn0.step)⟩
            · rw [if_neg c1003] at H
              exact absurd H (by simp)
          · rw [if_neg c1002] at H
            exact absurd H (by simp)
        · rw [if_neg c1001] at H
          have c1001b0 : decide (x5_1 < (l0.length : Int)) = false := decide_eq_false c1001
          clear c1001
          obtain rfl := Option.some.inj H
          go_wp2
          repeat (go_quiet (fail); try go_wp2)
          go_ret
          exact ⟨by first | rfl | (simp; done) | (simp [*]; done), by repeat (first | exact Drawn0.refl _ | apply Drawn0.step)⟩
  · rw [if_neg c3] at H
    have c3b0 : ((l0.length : Int) == (l1.length : Int)) = false := beq_eq_false_iff_ne.mpr c3
    have c3b1 : ((l0.length : Int) != (l1.length : Int)) = true := bne_iff_ne.mpr c3
    have c3b2 : (l0.length == l1.length) = false := by first | simpa using c3 | (simp at c3 ⊢; omega)
    obtain rfl := Option.some.inj H
    go_enter Try.func23, Try.ntmps23
    go_wp2
    repeat (go_quiet (fail); try go_wp2)
    go_ret
    exact ⟨by first | rfl | (simp; done) | (simp [*]; done), by repeat (first | exact Drawn0.refl _ | apply Drawn0.step)⟩

/-! ### laws_eqPacket: function 9 -/
def laws_eqPacket.f (k : Nat) (a0_0 : Int) (a0_1 : Int) (a0_2 : Bool) (a0_3 : Bool) (a0_4 : Int) (a0_5 : Int) (a0_6 : Int) (a0_7 : Int) (a0_8 : Int) (l0_9 : List Int) (l0_10 : List Int) (a1_0 : Int) (a1_1 : Int) (a1_2 : Bool) (a1_3 : Bool) (a1_4 : Int) (a1_5 : Int) (a1_6 : Int) (a1_7 : Int) (a1_8 : Int) (l1_9 : List Int) (l1_10 : List Int) : Option (Bool) := if a0_0 = a1_0 then (if a0_1 = a1_1 then (if (a0_2 != a1_2) = true then (some false) else (if (a0_3 != a1_3) = true then (some false) else (if a0_4 = a1_4 then (if a0_5 = a1_5 then (if a0_6 = a1_6 then (if a0_7 = a1_7 then (if a0_8 = a1_8 then ((laws_eqByteS.f k l0_9 l1_9).bind fun t295 => (if t295 = true then ((laws_eqByteS.f k l0_10 l1_10).bind fun t296 => (if t296 = true then (some true) else (some false))) else (some false))) else (some false)) else (some false)) else (some false)) else (some false)) else (some false)))) else (some false)) else (some false)
theorem laws_eqPacket.mono : ∀ a0 a1 a2 a3 a4 a5 a6 a7 a8 a9 a10 a11 a12 a13 a14 a15 a16 a17 a18 a19 a20 a21 k, LeO (laws_eqPacket.f k a0 a1 a2 a3 a4 a5 a6 a7 a8 a9 a10 a11 a12 a13 a14 a15 a16 a17 a18 a19 a20 a21) (laws_eqPacket.f (k + 1) a0 a1 a2 a3 a4 a5 a6 a7 a8 a9 a10 a11 a12 a13 a14 a15 a16 a17 a18 a19 a20 a21) := by
 intro a0 a1 a2 a3 a4 a5 a6 a7 a8 a9 a10 a11 a12 a13 a14 a15 a16 a17 a18 a19 a20 a21 k
 unfold laws_eqPacket.f
 repeat' first
     | (with_reducible exact laws_eqByteS.mono _ _ _)
     | (with_reducible exact LeO.refl _)
     | (with_reducible exact LeO.none _)
     | (with_reducible refine LeO.ite ?_ ?_)
     | (with_reducible refine LeO.bind ?_ (fun _ => ?_))
     | exact laws_eqByteS.mono _ _ _
     | exact LeO.none _
     | refine LeO.ite ?_ ?_
     | refine LeO.bind ?_ (fun _ => ?_)
set_option maxHeartbeats 60000000 in
set_option maxRecDepth 100000 in
theorem laws_eqPacket.calls (k : Nat) (a0_0 : Int) (a0_1 : Int) (a0_2 : Bool) (a0_3 : Bool) (a0_4 : Int) (a0_5 : Int) (a0_6 : Int) (a0_7 : Int) (a0_8 : Int) (A0_9 : Option Addr) (c0_9 : Nat) (l0_9 : List Int) (A0_10 : Option Addr) (c0_10 : Nat) (l0_10 : List Int) (a1_0 : Int) (a1_1 : Int) (a1_2 : Bool) (a1_3 : Bool) (a1_4 : Int) (a1_5 : Int) (a1_6 : Int) (a1_7 : Int) (a1_8 : Int) (A1_9 : Option Addr) (c1_9 : Nat) (l1_9 : List Int) (A1_10 : Option Addr) (c1_10 : Nat) (l1_10 : List Int) (r : Bool) (w : World) (hr0_9 : Kd.C (Kd.int .u8) w A0_9 l0_9.length l0_9) (hc0_9 : l0_9.length ≤ c0_9) (hr0_10 : Kd.C (Kd.int .u8) w A0_10 l0_10.length l0_10) (hc0_10 : l0_10.length ≤ c0_10) (hr1_9 : Kd.C (Kd.int .u8) w A1_9 l1_9.length l1_9) (hc1_9 : l1_9.length ≤ c1_9) (hr1_10 : Kd.C (Kd.int .u8) w A1_10 l1_10.length l1_10) (hc1_10 : l1_10.length ≤ c1_10) (h : laws_eqPacket.f k a0_0 a0_1 a0_2 a0_3 a0_4 a0_5 a0_6 a0_7 a0_8 l0_9 l0_10 a1_0 a1_1 a1_2 a1_3 a1_4 a1_5 a1_6 a1_7 a1_8 l1_9 l1_10 = some r) :
 Calls Try.prog 9 #[.agg #[.int .i64 a0_0, .int .i64 a0_1, .bool a0_2, .bool a0_3, .int .i64 a0_4, .int .i64 a0_5, .int .i64 a0_6, .int .i64 a0_7, .int .i64 a0_8, .slice A0_9 l0_9.length c0_9, .slice A0_10 l0_10.length c0_10], .agg #[.int .i64 a1_0, .int .i64 a1_1, .bool a1_2, .bool a1_3, .int .i64 a1_4, .int .i64 a1_5, .int .i64 a1_6, .int .i64 a1_7, .int .i64 a1_8, .slice A1_9 l1_9.length c1_9, .slice A1_10 l1_10.length c1_10]] w fun e w' => e = .returned (.bool r) ∧ Below w.heap.size w w' := by
 have hu29 := Try.underlying29
 have HR0_9 := Aside0.mk hr0_9
 have HC0_9 := Aside0.mk hc0_9
 clear hr0_9 hc0_9
 have HR0_10 := Aside0.mk hr0_10
 have HC0_10 := Aside0.mk hc0_10
 clear hr0_10 hc0_10
 have HR1_9 := Aside0.mk hr1_9
 have HC1_9 := Aside0.mk hc1_9
 clear hr1_9 hc1_9
 have HR1_10 := Aside0.mk hr1_10
 have HC1_10 := Aside0.mk hc1_10
 clear hr1_10 hc1_10
 have HB := Aside0.mk (Below.refl w.heap.size w)
 have H : (if a0_0 = a1_0 then (if a0_1 = a1_1 then (if (a0_2 != a1_2) = true then (some false) else (if (a0_3 != a1_3) = true then (some false) else (if a0_4 = a1_4 then (if a0_5 = a1_5 then (if a0_6 = a1_6 then (if a0_7 = a1_7 then (if a0_8 = a1_8 then ((laws_eqByteS.f k l0_9 l1_9).bind fun t295 => (if t295 = true then ((laws_eqByteS.f k l0_10 l1_10).bind fun t296 => (if t296 = true then (some true) else (some false))) else (some false))) else (some false)) else (some false)) else (some false)) else (some false)) else (some false)))) else (some false)) else (some false)) = some r := h
 clear h
 by_cases c3 : a0_0 = a1_0
 rw [if_pos c3] at H
 have c3b0 : (a0_0 == a1_0) = true := beq_iff_eq.mpr c3
 have c3b1 : (a0_0 != a1_0) = false := bne_eq_false_iff_eq.mpr c3
 clear c3
 by_cases c4 : a0_1 = a1_1
 rw [if_pos c4] at H
 have c4b0 : (a0_1 == a1_1) = true := beq_iff_eq.mpr c4
 have c4b1 : (a0_1 != a1_1) = false := bne_eq_false_iff_eq.mpr c4
 clear c4
 by_cases c5 : (a0_2 != a1_2) = true
 rw [if_pos c5] at H
 have c5b0 : (a0_2 != a1_2) = true := c5
 (try (have c5b1 : decide (a0_2 = a1_2) = false := by simpa using c5))
 (try (have c5b2 : (a0_2 == a1_2) = false := by simpa using c5))
 (try (have c5b3 : ¬ (a0_2 = a1_2) := by simpa using c5))
 clear c5
 obtain rfl := Option.some.inj H
 rotate_left
 rw [if_neg c5] at H
 have c5b0 : (a0_2 != a1_2) = false := by simpa using c5
 (try (have c5b1 : decide (a0_2 = a1_2) = true := by simpa using c5))
 (try (have c5b2 : (a0_2 == a1_2) = true := by simpa using c5))
 clear c5
 by_cases c6 : (a0_3 != a1_3) = true
 rw [if_pos c6] at H
 have c6b0 : (a0_3 != a1_3) = true := c6
 (try (have c6b1 : decide (a0_3 = a1_3) = false := by simpa using c6))
 (try (have c6b2 : (a0_3 == a1_3) = false := by simpa using c6))
 (try (have c6b3 : ¬ (a0_3 = a1_3) := by simpa using c6))
 clear c6
 obtain rfl := Option.some.inj H
 rotate_left
 rw [if_neg c6] at H
 have c6b0 : (a0_3 != a1_3) = false := by simpa using c6
 (try (have c6b1 : decide (a0_3 = a1_3) = true := by simpa using c6))
 (try (have c6b2 : (a0_3 == a1_3) = true := by simpa using c6))
 clear c6
 by_cases c7 : a0_4 = a1_4
 rw [if_pos c7] at H
 have c7b0 : (a0_4 == a1_4) = true := beq_iff_eq.mpr c7
 have c7b1 : (a0_4 != a1_4) = false := bne_eq_false_iff_eq.mpr c7
 clear c7
 by_cases c8 : a0_5 = a1_5
 rw [if_pos c8] at H
 have c8b0 : (a0_5 == a1_5) = true := beq_iff_eq.mpr c8
 have c8b1 : (a0_5 != a1_5) = false := bne_eq_false_iff_eq.mpr c8
 clear c8
 by_cases c9 : a0_6 = a1_6
 rw [if_pos c9] at H
 have c9b0 : (a0_6 == a1_6) = true := beq_iff_eq.mpr c9
 have c9b1 : (a0_6 != a1_6) = false := bne_eq_false_iff_eq.mpr c9
 clear c9
 by_cases c10 : a0_7 = a1_7
 rw [if_pos c10] at H
 have c10b0 : (a0_7 == a1_7) = true := beq_iff_eq.mpr c10
 have c10b1 : (a0_7 != a1_7) = false := bne_eq_false_iff_eq.mpr c10
 clear c10
 by_cases c11 : a0_8 = a1_8
 rw [if_pos c11] at H
 have c11b0 : (a0_8 == a1_8) = true := beq_iff_eq.mpr c11
 have c11b1 : (a0_8 != a1_8) = false := bne_eq_false_iff_eq.mpr c11
 clear c11
 replace H := Option.bind_eq_some_iff.mp H
 obtain ⟨t295, A120, H⟩ := H
 replace H : (if t295 = true then ((laws_eqByteS.f k l0_10 l1_10).bind fun t296 => (if t296 = true then (some true) else (some false))) else (some false)) = some r := H
 have A12 := Aside0.mk A120
 clear A120
 by_cases c13 : t295 = true
 subst c13
 have H1 : ((laws_eqByteS.f k l0_10 l1_10).bind fun t296 => (if t296 = true then (some true) else (some false))) = some r := by rw [if_pos rfl] at H; exact H
 clear H
 have H := H1
 clear H1
 replace H := Option.bind_eq_some_iff.mp H
 obtain ⟨t296, A140, H⟩ := H
 replace H : (if t296 = true then (some true) else (some false)) = some r := H
 have A14 := Aside0.mk A140
 clear A140
 by_cases c15 : t296 = true
 subst c15
 have H1 : (some true) = some r := by rw [if_pos rfl] at H; exact H
 clear H
 have H := H1
 clear H1
 obtain rfl := Option.some.inj H
 rotate_left
 replace c15 := Bool.eq_false_iff.mpr c15
 subst c15
 have H1 : (some false) = some r := by rw [if_neg (show ¬ (false = true) by decide)] at H; exact H
 clear H
 have H := H1
 clear H1
 obtain rfl := Option.some.inj H
 rotate_left
 replace c13 := Bool.eq_false_iff.mpr c13
 subst c13
 have H1 : (some false) = some r := by rw [if_neg (show ¬ (false = true) by decide)] at H; exact H
 clear H
 have H := H1
 clear H1
 obtain rfl := Option.some.inj H
 rotate_left
 rw [if_neg c11] at H
 have c11b0 : (a0_8 == a1_8) = false := beq_eq_false_iff_ne.mpr c11
 have c11b1 : (a0_8 != a1_8) = true := bne_iff_ne.mpr c11
 obtain rfl := Option.some.inj H
 rotate_left
 rw [if_neg c10] at H
 have c10b0 : (a0_7 == a1_7) = false := beq_eq_false_iff_ne.mpr c10
 have c10b1 : (a0_7 != a1_7) = true := bne_iff_ne.mpr c10
 obtain rfl := Option.some.inj H
 rotate_left
 rw [if_neg c9] at H
 have c9b0 : (a0_6 == a1_6) = false := beq_eq_false_iff_ne.mpr c9
 have c9b1 : (a0_6 != a1_6) = true := bne_iff_ne.mpr c9
 obtain rfl := Option.some.inj H
 rotate_left
 rw [if_neg c8] at H
 have c8b0 : (a0_5 == a1_5) = false := beq_eq_false_iff_ne.mpr c8
 have c8b1 : (a0_5 != a1_5) = true := bne_iff_ne.mpr c8
 obtain rfl := Option.some.inj H
 rotate_left
 rw [if_neg c7] at H
 have c7b0 : (a0_4 == a1_4) = false := beq_eq_false_iff_ne.mpr c7
 have c7b1 : (a0_4 != a1_4) = true := bne_iff_ne.mpr c7
 obtain rfl := Option.some.inj H
 rotate_left
 rw [if_neg c4] at H
 have c4b0 : (a0_1 == a1_1) = false := beq_eq_false_iff_ne.mpr c4
 have c4b1 : (a0_1 != a1_1) = true := bne_iff_ne.mpr c4
 obtain rfl := Option.some.inj H
 rotate_left
 rw [if_neg c3] at H
 have c3b0 : (a0_0 == a1_0) = false := beq_eq_false_iff_ne.mpr c3
 have c3b1 : (a0_0 != a1_0) = true := bne_iff_ne.mpr c3
 obtain rfl := Option.some.inj H
 rotate_left
 all_goals (
 go_enter Try.func9, Try.ntmps9
 go_wp2_with (first | ((with_reducible refine gate_dst (N := 2) rfl ?_); refine box_event ?hg (N := 2) ?hd (cs := #[.int .i64 a0_0, .int .i64 a0_1, .bool a0_2, .bool a0_3, .int .i64 a0_4, .int .i64 a0_5, .int .i64 a0_6, .int .i64 a0_7, .int .i64 a0_8, .slice A0_9 l0_9.length c0_9, .slice A0_10 l0_10.length c0_10]) (t := 29) ?hr ?_; (case hd => rfl); (case hg => rfl); (case hr => first | (go_simp; done) | (go_simp; rfl)); intro gb293 hg w1001 hbox hb; have n0_ := Aside0.mk (below_step wB hb); have n1_ := Aside0.mk (hbox); have n2_ := Aside0.mk ((by rw [hg]; exact (below_size wB) : w.heap.size ≤ gb293)); have n3_ := Aside0.mk ((by rw [hg]; exact (below_size wB) : w.heap.size ≤ gb293)); clear HB; have HB := n0_; have BK293 := n1_; have GW293 := n2_; have GE293 := n3_; clear n0_ n1_ n2_ n3_; clear hb hbox hg) | ((with_reducible refine gate_dst (N := 3) rfl ?_); refine box_event ?hg (N := 3) ?hd (cs := #[.int .i64 a1_0, .int .i64 a1_1, .bool a1_2, .bool a1_3, .int .i64 a1_4, .int .i64 a1_5, .int .i64 a1_6, .int .i64 a1_7, .int .i64 a1_8, .slice A1_9 l1_9.length c1_9, .slice A1_10 l1_10.length c1_10]) (t := 29) ?hr ?_; (case hd => rfl); (case hg => rfl); (case hr => first | (go_simp; done) | (go_simp; rfl)); intro gb294 hg w1002 hbox hb; have n0_ := Aside0.mk (blk_below (Bh BK293) hb); have n1_ := Aside0.mk (below_step wB hb); have n2_ := Aside0.mk (hbox); have n3_ := Aside0.mk ((by rw [hg]; exact (below_size wB) : w.heap.size ≤ gb294)); have n4_ := Aside0.mk ((by rw [hg]; exact (below_size wB) : w.heap.size ≤ gb294)); have n5_ := Aside0.mk ((by rw [hg]; exact Nat.ne_of_lt (blk_lt (Bh BK293)) : gb293 ≠ gb294)); have n6_ := Aside0.mk ((by rw [hg]; exact Nat.ne_of_gt (blk_lt (Bh BK293)) : gb294 ≠ gb293)); clear BK293; clear HB; have BK293 := n0_; have HB := n1_; have BK294 := n2_; have GW294 := n3_; have GE294 := n4_; have NB293_294 := n5_; have NB294_293 := n6_; clear n0_ n1_ n2_ n3_ n4_ n5_ n6_; clear hb hbox hg; have hnb1003 := NB293_294.out; have hnc1003 := NB294_293.out; obtain ⟨⟨hcz1004_0, hcz1004_1, hcz1004_2, hcz1004_3, hcz1004_4, hcz1004_5, hcz1004_6, hcz1004_7, hcz1004_8, hcz1004_9, hcz1004_10⟩, hfz1004_0, hfz1004_1, hfz1004_2, hfz1004_3, hfz1004_4, hfz1004_5, hfz1004_6, hfz1004_7, hfz1004_8, hfz1004_9, hfz1004_10⟩ := cells11 BK293.out; obtain ⟨⟨hcz1005_0, hcz1005_1, hcz1005_2, hcz1005_3, hcz1005_4, hcz1005_5, hcz1005_6, hcz1005_7, hcz1005_8, hcz1005_9, hcz1005_10⟩, hfz1005_0, hfz1005_1, hfz1005_2, hfz1005_3, hfz1005_4, hfz1005_5, hfz1005_6, hfz1005_7, hfz1005_8, hfz1005_9, hfz1005_10⟩ := cells11 BK294.out) | ((with_reducible refine gate_callee (f := 23) rfl ?_); refine goesL_ (some 54) rfl rfl Try.func23 (by kernel_rfl) rfl #[.slice A0_9 l0_9.length c0_9, .slice A1_9 l1_9.length c1_9] rfl wT ?_; (with_reducible refine (laws_eqByteS.calls k _ _ l0_9 _ _ l1_9 _ _ ?side1 ?side2 ?side3 ?side4 A12.out).mono ?_); (case side1 => exact Kd.C_below HR0_9.out wB); (case side2 => exact HC0_9.out); (case side3 => exact Kd.C_below HR1_9.out wB); (case side4 => exact HC1_9.out); rintro e w' ⟨rfl, ⟨nd, rfl⟩⟩; refine ⟨_, rfl, ?_⟩) | ((with_reducible refine gate_callee (f := 23) rfl ?_); refine goesL_ (some 60) rfl rfl Try.func23 (by kernel_rfl) rfl #[.slice A0_10 l0_10.length c0_10, .slice A1_10 l1_10.length c1_10] rfl wT ?_; (with_reducible refine (laws_eqByteS.calls k _ _ l0_10 _ _ l1_10 _ _ ?side1 ?side2 ?side3 ?side4 A14.out).mono ?_); (case side1 => repeat (first | exact (Kd.C_below HR0_10.out wB) | (with_reducible refine Kd.C_alloc ?_ _) | (with_reducible refine Kd.C_drewN ?_ _) | (with_reducible refine Kd.C_drew ?_))); (case side2 => exact HC0_10.out); (case side3 => repeat (first | exact (Kd.C_below HR1_10.out wB) | (with_reducible refine Kd.C_alloc ?_ _) | (with_reducible refine Kd.C_drewN ?_ _) | (with_reducible refine Kd.C_drew ?_))); (case side4 => exact HC1_10.out); rintro e w' ⟨rfl, ⟨nd, rfl⟩⟩; refine ⟨_, rfl, ?_⟩))
 go_ret
 exact ⟨by first | rfl | (simp [errW_none, errW_some] <;> rfl) | (simp [*, errW_none, errW_some] <;> rfl), wB⟩
 )

end Go.Proofs.Ytcapkpbjppenpaa.PFnExactFragment
