-- Written for this claim by a program of this session (wip/mkprint.py: the print, turned at a few places). Not trusted: Lean checks it.
import Derived.Test.YtfllcmeakcbiaaaPFnExactDecodeSegmentx0
import Derived.Test.YtfllcmeakcbiaaaPFnExactDecodeSegmentx2
namespace Go.Proofs.Ytfllcmeakcbiaaa.PFnExactDecodeSegment
open Go.RowKit Go.Proofs.YtfllcmeakcbiaaaW.PrintWords Go.Proofs.YtfllcmeakcbiaaaW.PrintLast Go.Proofs.YtfllcmeakcbiaaaW.PrintMore
attribute [local go_sem] max2_int min2_int max_two min_two max_three min_three max_four min_four   -- for this text's walks alone
set_option linter.unusedVariables false
set_option linter.unusedSimpArgs false

/-! ### spec_l11ReadOptions: function 27 -/
/-! ### spec_l11ReadOptions: function 27, walked by hand -/
def spec_l11ReadOptions.l0 : Nat → Int → Int → Int → Int → Int → Int → Int → Bool → Int → Bool → List (S60) → List Int → List Int → Option (Int × Int × Int × Int × Int × Int × Int × Bool × Int × Bool × List (S60) × Bool)
  | 0, _, _, _, _, _, _, _, _, _, _, _, _, _ => none
  | k + 1, x0, x1, x2, x3, x4, x5, x6, x7, x8, x9, s, d, b => if 0 < (b.length : Int) then (if (rd b 0) = 0 then (some (x0, x1, x2, x3, x4, x5, x6, x7, x8, x9, s, true)) else (if (rd b 0) = 1 then (spec_l11ReadOptions.l0 k x0 x1 x2 x3 x4 x5 x6 x7 x8 x9 s d (b.drop 1)) else (if (b.length : Int) < 2 then (some (x0, x1, x2, x3, x4, x5, x6, x7, x8, x9, s, false)) else (if (rd b 1) < 2 then (some (x0, x1, x2, x3, x4, x5, x6, x7, x8, x9, s, false)) else (if (b.length : Int) < (wrap64 (rd b 1)) then (some (x0, x1, x2, x3, x4, x5, x6, x7, x8, x9, s, false)) else (if 0 ≤ (wrap64 (rd b 1)) then ((spec_l11Option.f k x0 x1 x2 x3 x4 x5 x6 x7 x8 x9 s d (b.take (wrap64 (rd b 1)).toNat)).bind fun t => (if t.2.2.2.2.2.2.2.2.2.2.2 = true then (spec_l11ReadOptions.l0 k t.1 t.2.1 t.2.2.1 t.2.2.2.1 t.2.2.2.2.1 t.2.2.2.2.2.1 t.2.2.2.2.2.2.1 t.2.2.2.2.2.2.2.1 t.2.2.2.2.2.2.2.2.1 t.2.2.2.2.2.2.2.2.2.1 t.2.2.2.2.2.2.2.2.2.2.1 d (b.drop (wrap64 (rd b 1)).toNat)) else (some (x0, x1, x2, x3, x4, x5, x6, x7, x8, x9, s, false)))) else (none))))))) else (some (x0, x1, x2, x3, x4, x5, x6, x7, x8, x9, s, true))
def spec_l11ReadOptions.f (k : Nat) (x0 : Int) (x1 : Int) (x2 : Int) (x3 : Int) (x4 : Int) (x5 : Int) (x6 : Int) (x7 : Bool) (x8 : Int) (x9 : Bool) (d b : List Int) : Option (Int × Int × Int × Int × Int × Int × Int × Bool × Int × Bool × List (S60) × Bool) := spec_l11ReadOptions.l0 k x0 x1 x2 x3 x4 x5 x6 x7 x8 x9 [] d b
theorem spec_l11ReadOptions.l0.mono_l : ∀ k y0 y1 y2 y3 y4 y5 y6 y7 y8 y9 y10 y11 y12, LeO (spec_l11ReadOptions.l0 k y0 y1 y2 y3 y4 y5 y6 y7 y8 y9 y10 y11 y12) (spec_l11ReadOptions.l0 (k + 1) y0 y1 y2 y3 y4 y5 y6 y7 y8 y9 y10 y11 y12)
  | 0 => fun _ _ _ _ _ _ _ _ _ _ _ _ _ r h => by simp [spec_l11ReadOptions.l0] at h
  | k + 1 => by
    have ih := spec_l11ReadOptions.l0.mono_l k
    intro y0 y1 y2 y3 y4 y5 y6 y7 y8 y9 y10 y11 y12
    unfold spec_l11ReadOptions.l0
    repeat' first
      | (with_reducible exact ih _ _ _ _ _ _ _ _ _ _ _ _ _)
      | (with_reducible exact spec_l11Option.mono _ _ _ _ _ _ _ _ _ _ _ _ _ _)
      | (with_reducible exact LeO.refl _)
      | (with_reducible exact LeO.none _)
      | (with_reducible refine LeO.ite ?_ ?_)
      | (with_reducible refine LeO.bind ?_ (fun _ => ?_))
      | exact spec_l11Option.mono _ _ _ _ _ _ _ _ _ _ _ _ _ _
      | exact LeO.none _
      | refine LeO.ite ?_ ?_
      | refine LeO.bind ?_ (fun _ => ?_)
      | exact ih _ _ _ _ _ _ _ _ _ _ _ _ _
theorem spec_l11ReadOptions.mono : ∀ y0 y1 y2 y3 y4 y5 y6 y7 y8 y9 y10 y11 k, LeO (spec_l11ReadOptions.f k y0 y1 y2 y3 y4 y5 y6 y7 y8 y9 y10 y11) (spec_l11ReadOptions.f (k + 1) y0 y1 y2 y3 y4 y5 y6 y7 y8 y9 y10 y11) := by
  intro y0 y1 y2 y3 y4 y5 y6 y7 y8 y9 y10 y11 k
  unfold spec_l11ReadOptions.f
  repeat' first
    | (with_reducible exact spec_l11ReadOptions.l0.mono_l _ _ _ _ _ _ _ _ _ _ _ _ _ _)
    | (with_reducible exact LeO.refl _)
    | (with_reducible exact LeO.none _)
    | (with_reducible refine LeO.ite ?_ ?_)
    | (with_reducible refine LeO.bind ?_ (fun _ => ?_))
    | exact spec_l11ReadOptions.l0.mono_l _ _ _ _ _ _ _ _ _ _ _ _ _ _
    | exact LeO.none _
    | refine LeO.ite ?_ ?_
    | refine LeO.bind ?_ (fun _ => ?_)
def spec_l11ReadOptions.Post (r0 : Int) (r1 : Int) (r2 : Int) (r3 : Int) (r4 : Int) (r5 : Int) (r6 : Int) (r7 : Bool) (r8 : Int) (r9 : Bool) (r10 : List (S60)) (r11 : Bool) (A11 : Option Addr) (c11 : Nat) (l11 : List Int) (w : World) (e : Ending) (w' : World) : Prop := ∃ (Av_ : Option Addr) (nv_ cv_ : Nat), e = .returned (.tuple #[.agg #[.int .i64 r0, .int .i64 r1, .int .i64 r2, .int .i64 r3, .int .i64 r4, .int .i64 r5, .int .i64 r6, .bool r7, .int .i64 r8, .bool r9, .slice Av_ nv_ cv_, .slice A11 l11.length c11], .bool r11]) ∧ (r11 = true → Kd.R k60 60 w' w.heap.size (fun k_ => w.heap.size ≤ k_) (.slice Av_ nv_ cv_) r10) ∧ Below w.heap.size w w'
set_option maxHeartbeats 60000000 in
set_option maxRecDepth 100000 in
theorem spec_l11ReadOptions.walk (k : Nat) (a0_0 : Int) (a0_1 : Int) (a0_2 : Int) (a0_3 : Int) (a0_4 : Int) (a0_5 : Int) (a0_6 : Int) (a0_7 : Bool) (a0_8 : Int) (a0_9 : Bool) (A11 : Option Addr) (c11 : Nat) (l11 : List Int) (A1 : Option Addr) (c1 : Nat) (l1 : List Int) (r0 : Int) (r1 : Int) (r2 : Int) (r3 : Int) (r4 : Int) (r5 : Int) (r6 : Int) (r7 : Bool) (r8 : Int) (r9 : Bool) (r10 : List (S60)) (r11 : Bool) (w : World) (hr11 : Kd.C (Kd.int .u8) w A11 l11.length l11) (hc11 : l11.length ≤ c11) (hr1 : Kd.C (Kd.int .u8) w A1 l1.length l1) (hc1 : l1.length ≤ c1) (h : spec_l11ReadOptions.f k a0_0 a0_1 a0_2 a0_3 a0_4 a0_5 a0_6 a0_7 a0_8 a0_9 l11 l1 = some (r0, r1, r2, r3, r4, r5, r6, r7, r8, r9, r10, r11)) :
    Calls Try.prog 27 #[.agg #[.int .i64 a0_0, .int .i64 a0_1, .int .i64 a0_2, .int .i64 a0_3, .int .i64 a0_4, .int .i64 a0_5, .int .i64 a0_6, .bool a0_7, .int .i64 a0_8, .bool a0_9, .slice none 0 0, .slice A11 l11.length c11], .slice A1 l1.length c1] w (spec_l11ReadOptions.Post r0 r1 r2 r3 r4 r5 r6 r7 r8 r9 r10 r11 A11 c11 l11 w) := by
  have hu25 := Try.underlying25
  have hu60 := Try.underlying60
  have HR11 := Aside0.mk hr11
  have HC11 := Aside0.mk hc11
  have HR1 := Aside0.mk hr1
  have HC1 := Aside0.mk hc1
  clear hr11 hc11 hr1 hc1
  have H' := Aside0.mk (show spec_l11ReadOptions.l0 k a0_0 a0_1 a0_2 a0_3 a0_4 a0_5 a0_6 a0_7 a0_8 a0_9 [] l11 l1 = some (r0, r1, r2, r3, r4, r5, r6, r7, r8, r9, r10, r11) from h)
  clear h
  have HB := Aside0.mk (Below.refl w.heap.size w)
  go_enter Try.func27, Try.ntmps27
  go_wp2_with (first
    | ((with_reducible refine gate_dst (N := 2) rfl ?_); refine box_event ?hg (N := 2) ?hd (cs := #[.int .i64 a0_0, .int .i64 a0_1, .int .i64 a0_2, .int .i64 a0_3, .int .i64 a0_4, .int .i64 a0_5, .int .i64 a0_6, .bool a0_7, .int .i64 a0_8, .bool a0_9, .slice none 0 0, .slice A11 l11.length c11]) (t := 25) ?hr ?_; (case hd => rfl); (case hg => rfl); (case hr => first | (go_simp; done) | (go_simp; rfl)); intro gs hg v1 hbox hb; have B1 := Aside0.mk (below_step HB.out hb); have KS1 := Aside0.mk (show v1.heap[gs]? = some (.cells #[.int .i64 a0_0, .int .i64 a0_1, .int .i64 a0_2, .int .i64 a0_3, .int .i64 a0_4, .int .i64 a0_5, .int .i64 a0_6, .bool a0_7, .int .i64 a0_8, .bool a0_9, .slice none 0 0, .slice A11 l11.length c11] 25 (0, 0)) from hbox); have GS := Aside0.mk ((by rw [hg]; exact HB.out.size) : w.heap.size ≤ gs); clear hb hbox hg; obtain ⟨⟨hcz1_0, hcz1_1, hcz1_2, hcz1_3, hcz1_4, hcz1_5, hcz1_6, hcz1_7, hcz1_8, hcz1_9, hcz1_10, hcz1_11⟩, hfz1_0, hfz1_1, hfz1_2, hfz1_3, hfz1_4, hfz1_5, hfz1_6, hfz1_7, hfz1_8, hfz1_9, hfz1_10, hfz1_11⟩ := cells12 KS1.out)
    | ((with_reducible refine gate_dst (N := 4) rfl ?_); refine box_event ?hg (N := 4) ?hd (cs := #[.int .i64 0, .int .i64 0, .int .i64 0, .int .i64 0, .int .i64 0, .int .i64 0, .int .i64 0, .bool false, .int .i64 0, .bool false, .slice none 0 0, .slice none 0 0]) (t := 25) ?hr ?_; (case hd => rfl); (case hg => rfl); (case hr => first | (go_simp; done) | (go_simp; rfl)); intro gr hg v2 hbox hb; have B2 := Aside0.mk (below_step B1.out hb); have KS2 := Aside0.mk (show v2.heap[gs]? = some (.cells #[.int .i64 a0_0, .int .i64 a0_1, .int .i64 a0_2, .int .i64 a0_3, .int .i64 a0_4, .int .i64 a0_5, .int .i64 a0_6, .bool a0_7, .int .i64 a0_8, .bool a0_9, .slice none 0 0, .slice A11 l11.length c11] 25 (0, 0)) from blk_below KS1.out hb); have KR2 := Aside0.mk (show v2.heap[gr]? = some (.cells #[.int .i64 0, .int .i64 0, .int .i64 0, .int .i64 0, .int .i64 0, .int .i64 0, .int .i64 0, .bool false, .int .i64 0, .bool false, .slice none 0 0, .slice none 0 0] 25 (0, 0)) from hbox); have GR := Aside0.mk ((by rw [hg]; exact B1.out.size) : w.heap.size ≤ gr); have NE := Aside0.mk ((by rw [hg]; exact Nat.ne_of_lt (blk_lt KS1.out)) : gs ≠ gr); clear hb hbox hg; skip))
  clear hcz1_0 hfz1_0 hcz1_1 hfz1_1 hcz1_2 hfz1_2 hcz1_3 hfz1_3 hcz1_4 hfz1_4 hcz1_5 hfz1_5 hcz1_6 hfz1_6 hcz1_7 hfz1_7 hcz1_8 hfz1_8 hcz1_9 hfz1_9 hcz1_10 hfz1_10 hcz1_11 hfz1_11
  clear B1 KS1 HB
  go_loopg [1] k (fun kq v1 v => ∃ (x0 : Int) (x1 : Int) (x2 : Int) (x3 : Int) (x4 : Int) (x5 : Int) (x6 : Int) (x7 : Bool) (x8 : Int) (x9 : Bool) (An : Option Addr) (cn : Nat) (s : List (S60)) (Ab : Option Addr) (cb : Nat) (b : List Int), v1 = .slice Ab b.length cb ∧ Aside0 (spec_l11ReadOptions.l0 kq x0 x1 x2 x3 x4 x5 x6 x7 x8 x9 s l11 b = some (r0, r1, r2, r3, r4, r5, r6, r7, r8, r9, r10, r11)) ∧ Aside0 (kq ≤ k) ∧ Aside0 (Kd.R k60 60 v w.heap.size (fun k_ => w.heap.size ≤ k_) (.slice An s.length cn) s) ∧ Aside0 (Kd.C (Kd.int .u8) w Ab b.length b) ∧ Aside0 (b.length ≤ cb) ∧ Aside0 (v.heap[gs]? = some (.cells #[.int .i64 x0, .int .i64 x1, .int .i64 x2, .int .i64 x3, .int .i64 x4, .int .i64 x5, .int .i64 x6, .bool x7, .int .i64 x8, .bool x9, .slice An s.length cn, .slice A11 l11.length c11] 25 (0, 0))) ∧ Aside0 (v.heap[gr]? = some (.cells #[.int .i64 0, .int .i64 0, .int .i64 0, .int .i64 0, .int .i64 0, .int .i64 0, .int .i64 0, .bool false, .int .i64 0, .bool false, .slice none 0 0, .slice none 0 0] 25 (0, 0))) ∧ Aside0 (Below w.heap.size w v))
  case atStart => exact ⟨a0_0, a0_1, a0_2, a0_3, a0_4, a0_5, a0_6, a0_7, a0_8, a0_9, none, 0, [], A1, c1, l1, (by first | rfl | (simp; done) | (simp [*]; done)), H', ⟨Nat.le_refl _⟩, ⟨Kd.R_nil _ _ _ _ _⟩, HR1, HC1, ⟨by first | exact KS2.out | exact blk_drew KS2.out⟩, ⟨by first | exact KR2.out | exact blk_drew KR2.out⟩, ⟨by first | exact B2.out | exact below_drew1 B2.out⟩⟩
  case round =>
    clear H' KS2 KR2 B2
    obtain ⟨x0, x1, x2, x3, x4, x5, x6, x7, x8, x9, An, cn, s, Ab, cb, b, rfl, HA, HK1, R, HC, HCC, KS, KR, B⟩ := hrel
    cases gk with
    | zero => exact absurd HA.out (by simp [spec_l11ReadOptions.l0])
    | succ k1 =>
    have H := HA.out
    clear HA
    simp only [spec_l11ReadOptions.l0] at H
    obtain ⟨⟨hczs_0, hczs_1, hczs_2, hczs_3, hczs_4, hczs_5, hczs_6, hczs_7, hczs_8, hczs_9, hczs_10, hczs_11⟩, hfzs_0, hfzs_1, hfzs_2, hfzs_3, hfzs_4, hfzs_5, hfzs_6, hfzs_7, hfzs_8, hfzs_9, hfzs_10, hfzs_11⟩ := cells12 KS.out
    obtain ⟨⟨hczr_0, hczr_1, hczr_2, hczr_3, hczr_4, hczr_5, hczr_6, hczr_7, hczr_8, hczr_9, hczr_10, hczr_11⟩, hfzr_0, hfzr_1, hfzr_2, hfzr_3, hfzr_4, hfzr_5, hfzr_6, hfzr_7, hfzr_8, hfzr_9, hfzr_10, hfzr_11⟩ := cells12 KR.out
    by_cases c0 : 0 < (b.length : Int)
    rotate_left
    · rw [if_neg c0] at H
      have c0b : decide (0 < (b.length : Int)) = false := decide_eq_false c0
      have c0c : decide (0 < b.length) = false := decide_eq_false (by omega)
      clear c0
      simp only [Option.some.injEq, Prod.mk.injEq] at H
      obtain ⟨rfl, rfl, rfl, rfl, rfl, rfl, rfl, rfl, rfl, rfl, rfl, rfl⟩ := H
      go_wp2_with (first | ((with_reducible refine gate_store (t := 25) (p := 4) rfl ?_); refine store_event (t := 25) (p := 4) (v := ?vo_x1) (w1 := put12 wr gr (.int .i64 x0) (.int .i64 x1) (.int .i64 x2) (.int .i64 x3) (.int .i64 x4) (.int .i64 x5) (.int .i64 x6) (.bool x7) (.int .i64 x8) (.bool x9) (.slice An s.length cn) (.slice A11 l11.length c11)) ?hg ?ho ?hn ?hr ?_; (case ho => rfl); (case hg => rfl); (case hn => rfl); (case hr => first | (go_simp; done) | (go_simp; rfl)); intro vS hw; have RS : Aside0 (Kd.R k60 60 vS w.heap.size (fun k_ => w.heap.size ≤ k_) (.slice An s.length cn) s) := ⟨by rw [hw]; exact Kd.R_mono (Kd.R_step (Kd.R_types R.out KR.out (by decide)) (fun _ hk _ => far12 hk.2)) (fun _ hk => hk.1)⟩; have KXS : Aside0 (vS.heap[gr]? = some (.cells #[.int .i64 x0, .int .i64 x1, .int .i64 x2, .int .i64 x3, .int .i64 x4, .int .i64 x5, .int .i64 x6, .bool x7, .int .i64 x8, .bool x9, .slice An s.length cn, .slice A11 l11.length c11] 25 (0, 0))) := ⟨by rw [hw]; exact set12 KR.out⟩; have BS : Aside0 (Below w.heap.size w vS) := ⟨by rw [hw]; refine below_set ?_ GR.out; refine below_set ?_ GR.out; refine below_set ?_ GR.out; refine below_set ?_ GR.out; refine below_set ?_ GR.out; refine below_set ?_ GR.out; refine below_set ?_ GR.out; refine below_set ?_ GR.out; refine below_set ?_ GR.out; refine below_set ?_ GR.out; refine below_set ?_ GR.out; refine below_set ?_ GR.out; exact B.out⟩; clear hw hczs_0 hfzs_0 hczs_1 hfzs_1 hczs_2 hfzs_2 hczs_3 hfzs_3 hczs_4 hfzs_4 hczs_5 hfzs_5 hczs_6 hfzs_6 hczs_7 hfzs_7 hczs_8 hfzs_8 hczs_9 hfzs_9 hczs_10 hfzs_10 hczs_11 hfzs_11 hczr_0 hfzr_0 hczr_1 hfzr_1 hczr_2 hfzr_2 hczr_3 hfzr_3 hczr_4 hfzr_4 hczr_5 hfzr_5 hczr_6 hfzr_6 hczr_7 hfzr_7 hczr_8 hfzr_8 hczr_9 hfzr_9 hczr_10 hfzr_10 hczr_11 hfzr_11; obtain ⟨⟨hczz_0, hczz_1, hczz_2, hczz_3, hczz_4, hczz_5, hczz_6, hczz_7, hczz_8, hczz_9, hczz_10, hczz_11⟩, hfzz_0, hfzz_1, hfzz_2, hfzz_3, hfzz_4, hfzz_5, hfzz_6, hfzz_7, hfzz_8, hfzz_9, hfzz_10, hfzz_11⟩ := cells12 KXS.out))
      refine bodyPost_ret (results_ct rfl _ _ gr 25 #[.int .i64 x0, .int .i64 x1, .int .i64 x2, .int .i64 x3, .int .i64 x4, .int .i64 x5, .int .i64 x6, .bool x7, .int .i64 x8, .bool x9, .slice An s.length cn, .slice A11 l11.length c11] (0, 0) _ rfl KXS.out Try.underlying25 rfl (by kernel_rfl)) rfl ?_
      exact ⟨An, s.length, cn, (by first | rfl | (simp; done) | (simp [*]; done) | (simp [errW_none, errW_some] <;> rfl) | (simp [*, errW_none, errW_some] <;> rfl)), fun _ => RS.out, BS.out⟩
    rw [if_pos c0] at H
    have c0b : decide (0 < (b.length : Int)) = true := decide_eq_true c0
    have c0c : decide (0 < b.length) = true := decide_eq_true (by omega)
    have q0 : (0 < b.length) = True := eq_true (by omega)
    obtain ⟨ad, ead, hx0⟩ := Kd.at_int (Kd.C_below HC.out B.out) 0 (by omega) c0
    subst ead
    rw [show ((0 : Int)).toNat = 0 from rfl, Addr.add_zero'] at hx0
    by_cases c1 : (rd b 0) = 0
    · rw [if_pos c1] at H
      have c1b : ((rd b 0) == 0) = true := beq_iff_eq.mpr c1
      have c1c : ((rd b 0) != 0) = false := bne_eq_false_iff_eq.mpr c1
      simp only [Option.some.injEq, Prod.mk.injEq] at H
      obtain ⟨rfl, rfl, rfl, rfl, rfl, rfl, rfl, rfl, rfl, rfl, rfl, rfl⟩ := H
      go_wp2_with (first | ((with_reducible refine gate_store (t := 25) (p := 4) rfl ?_); refine store_event (t := 25) (p := 4) (v := ?vo_x2) (w1 := put12 wr gr (.int .i64 x0) (.int .i64 x1) (.int .i64 x2) (.int .i64 x3) (.int .i64 x4) (.int .i64 x5) (.int .i64 x6) (.bool x7) (.int .i64 x8) (.bool x9) (.slice An s.length cn) (.slice A11 l11.length c11)) ?hg ?ho ?hn ?hr ?_; (case ho => rfl); (case hg => rfl); (case hn => rfl); (case hr => first | (go_simp; done) | (go_simp; rfl)); intro vS hw; have RS : Aside0 (Kd.R k60 60 vS w.heap.size (fun k_ => w.heap.size ≤ k_) (.slice An s.length cn) s) := ⟨by rw [hw]; exact Kd.R_mono (Kd.R_step (Kd.R_types R.out KR.out (by decide)) (fun _ hk _ => far12 hk.2)) (fun _ hk => hk.1)⟩; have KXS : Aside0 (vS.heap[gr]? = some (.cells #[.int .i64 x0, .int .i64 x1, .int .i64 x2, .int .i64 x3, .int .i64 x4, .int .i64 x5, .int .i64 x6, .bool x7, .int .i64 x8, .bool x9, .slice An s.length cn, .slice A11 l11.length c11] 25 (0, 0))) := ⟨by rw [hw]; exact set12 KR.out⟩; have BS : Aside0 (Below w.heap.size w vS) := ⟨by rw [hw]; refine below_set ?_ GR.out; refine below_set ?_ GR.out; refine below_set ?_ GR.out; refine below_set ?_ GR.out; refine below_set ?_ GR.out; refine below_set ?_ GR.out; refine below_set ?_ GR.out; refine below_set ?_ GR.out; refine below_set ?_ GR.out; refine below_set ?_ GR.out; refine below_set ?_ GR.out; refine below_set ?_ GR.out; exact B.out⟩; clear hw hczs_0 hfzs_0 hczs_1 hfzs_1 hczs_2 hfzs_2 hczs_3 hfzs_3 hczs_4 hfzs_4 hczs_5 hfzs_5 hczs_6 hfzs_6 hczs_7 hfzs_7 hczs_8 hfzs_8 hczs_9 hfzs_9 hczs_10 hfzs_10 hczs_11 hfzs_11 hczr_0 hfzr_0 hczr_1 hfzr_1 hczr_2 hfzr_2 hczr_3 hfzr_3 hczr_4 hfzr_4 hczr_5 hfzr_5 hczr_6 hfzr_6 hczr_7 hfzr_7 hczr_8 hfzr_8 hczr_9 hfzr_9 hczr_10 hfzr_10 hczr_11 hfzr_11; obtain ⟨⟨hczz_0, hczz_1, hczz_2, hczz_3, hczz_4, hczz_5, hczz_6, hczz_7, hczz_8, hczz_9, hczz_10, hczz_11⟩, hfzz_0, hfzz_1, hfzz_2, hfzz_3, hfzz_4, hfzz_5, hfzz_6, hfzz_7, hfzz_8, hfzz_9, hfzz_10, hfzz_11⟩ := cells12 KXS.out))
      refine bodyPost_ret (results_ct rfl _ _ gr 25 #[.int .i64 x0, .int .i64 x1, .int .i64 x2, .int .i64 x3, .int .i64 x4, .int .i64 x5, .int .i64 x6, .bool x7, .int .i64 x8, .bool x9, .slice An s.length cn, .slice A11 l11.length c11] (0, 0) _ rfl KXS.out Try.underlying25 rfl (by kernel_rfl)) rfl ?_
      exact ⟨An, s.length, cn, (by first | rfl | (simp; done) | (simp [*]; done) | (simp [errW_none, errW_some] <;> rfl) | (simp [*, errW_none, errW_some] <;> rfl)), fun _ => RS.out, BS.out⟩
    rw [if_neg c1] at H
    have c1b : ((rd b 0) == 0) = false := beq_eq_false_iff_ne.mpr c1
    have c1c : ((rd b 0) != 0) = true := bne_iff_ne.mpr c1
    by_cases c2 : (rd b 0) = 1
    · rw [if_pos c2] at H
      have c2b : ((rd b 0) == 1) = true := beq_iff_eq.mpr c2
      have c2c : ((rd b 0) != 1) = false := bne_eq_false_iff_eq.mpr c2
      obtain ⟨i1, hi1, _, hsz1, _⟩ := info_parts info5
      have q1 : (1 : Int) ≤ (b.length : Int) := by omega
      have hcut := cut_from (P := Try.prog) 22 5 .i64 Try.underlying22 hi1 1 hsz1 (some ad) b.length cb 1 (by omega) q1
      have hr := Kd.C_drop (m := (1 : Int).toNat) (c := cb) HC.out (by omega) HCC.out
      obtain ⟨A5, hA5⟩ : ∃ A1, A1 = (if cb = (1 : Int).toNat then (some ad) else ((some ad) : Option Addr).map (·.add ((1 : Int).toNat * 1))) := ⟨_, rfl⟩
      obtain ⟨c5, hc5⟩ : ∃ c_, c_ = cb - (1 : Int).toNat := ⟨_, rfl⟩
      obtain ⟨y5, hy5⟩ : ∃ y_ : List Int, y_ = b.drop (1 : Int).toNat := ⟨_, rfl⟩
      have hl5 : y5.length = b.length - (1 : Int).toNat := by rw [hy5, List.length_drop]
      rw [← hy5] at hr
      replace hr : Kd.C (Kd.int .u8) w A5 y5.length y5 := by rw [hA5]; exact hr
      rw [← hl5, ← hA5, ← hc5] at hcut
      have HY := Aside0.mk hr
      have HYC := Aside0.mk (show y5.length ≤ c5 from by have := HCC.out; rw [hl5, hc5]; exact Nat.sub_le_sub_right this _)
      have H2 := Aside0.mk (show spec_l11ReadOptions.l0 k1 x0 x1 x2 x3 x4 x5 x6 x7 x8 x9 s l11 y5 = some (r0, r1, r2, r3, r4, r5, r6, r7, r8, r9, r10, r11) from by rw [hy5]; exact H)
      clear H hr hi1 hsz1 hc5 hy5 hl5 hA5
      replace q1 := eq_true q1
      go_wp2
      go_roundg k1
      case measure => have := HK1.out; omega
      case rel => exact ⟨x0, x1, x2, x3, x4, x5, x6, x7, x8, x9, An, cn, s, A5, c5, y5, (by first | rfl | (simp; done) | (simp [*]; done)), H2, ⟨by have := HK1.out; omega⟩, ⟨by first | exact R.out | exact Kd.R_drew R.out⟩, HY, HYC, ⟨by first | exact KS.out | exact blk_drew KS.out⟩, ⟨by first | exact KR.out | exact blk_drew KR.out⟩, ⟨by first | exact B.out | exact below_drew1 B.out⟩⟩
    rw [if_neg c2] at H
    have c2b : ((rd b 0) == 1) = false := beq_eq_false_iff_ne.mpr c2
    have c2c : ((rd b 0) != 1) = true := bne_iff_ne.mpr c2
    by_cases c3 : (b.length : Int) < 2
    · rw [if_pos c3] at H
      have c3b : decide ((b.length : Int) < 2) = true := decide_eq_true c3
      have c3c : decide (b.length < 2) = true := decide_eq_true (by omega)
      simp only [Option.some.injEq, Prod.mk.injEq] at H
      obtain ⟨rfl, rfl, rfl, rfl, rfl, rfl, rfl, rfl, rfl, rfl, rfl, rfl⟩ := H
      go_wp2_with (first | ((with_reducible refine gate_store (t := 25) (p := 4) rfl ?_); refine store_event (t := 25) (p := 4) (v := ?vo_x3) (w1 := put12 wr gr (.int .i64 x0) (.int .i64 x1) (.int .i64 x2) (.int .i64 x3) (.int .i64 x4) (.int .i64 x5) (.int .i64 x6) (.bool x7) (.int .i64 x8) (.bool x9) (.slice An s.length cn) (.slice A11 l11.length c11)) ?hg ?ho ?hn ?hr ?_; (case ho => rfl); (case hg => rfl); (case hn => rfl); (case hr => first | (go_simp; done) | (go_simp; rfl)); intro vS hw; have RS : Aside0 (Kd.R k60 60 vS w.heap.size (fun k_ => w.heap.size ≤ k_) (.slice An s.length cn) s) := ⟨by rw [hw]; exact Kd.R_mono (Kd.R_step (Kd.R_types R.out KR.out (by decide)) (fun _ hk _ => far12 hk.2)) (fun _ hk => hk.1)⟩; have KXS : Aside0 (vS.heap[gr]? = some (.cells #[.int .i64 x0, .int .i64 x1, .int .i64 x2, .int .i64 x3, .int .i64 x4, .int .i64 x5, .int .i64 x6, .bool x7, .int .i64 x8, .bool x9, .slice An s.length cn, .slice A11 l11.length c11] 25 (0, 0))) := ⟨by rw [hw]; exact set12 KR.out⟩; have BS : Aside0 (Below w.heap.size w vS) := ⟨by rw [hw]; refine below_set ?_ GR.out; refine below_set ?_ GR.out; refine below_set ?_ GR.out; refine below_set ?_ GR.out; refine below_set ?_ GR.out; refine below_set ?_ GR.out; refine below_set ?_ GR.out; refine below_set ?_ GR.out; refine below_set ?_ GR.out; refine below_set ?_ GR.out; refine below_set ?_ GR.out; refine below_set ?_ GR.out; exact B.out⟩; clear hw hczs_0 hfzs_0 hczs_1 hfzs_1 hczs_2 hfzs_2 hczs_3 hfzs_3 hczs_4 hfzs_4 hczs_5 hfzs_5 hczs_6 hfzs_6 hczs_7 hfzs_7 hczs_8 hfzs_8 hczs_9 hfzs_9 hczs_10 hfzs_10 hczs_11 hfzs_11 hczr_0 hfzr_0 hczr_1 hfzr_1 hczr_2 hfzr_2 hczr_3 hfzr_3 hczr_4 hfzr_4 hczr_5 hfzr_5 hczr_6 hfzr_6 hczr_7 hfzr_7 hczr_8 hfzr_8 hczr_9 hfzr_9 hczr_10 hfzr_10 hczr_11 hfzr_11; obtain ⟨⟨hczz_0, hczz_1, hczz_2, hczz_3, hczz_4, hczz_5, hczz_6, hczz_7, hczz_8, hczz_9, hczz_10, hczz_11⟩, hfzz_0, hfzz_1, hfzz_2, hfzz_3, hfzz_4, hfzz_5, hfzz_6, hfzz_7, hfzz_8, hfzz_9, hfzz_10, hfzz_11⟩ := cells12 KXS.out))
      refine bodyPost_ret (results_ct rfl _ _ gr 25 #[.int .i64 x0, .int .i64 x1, .int .i64 x2, .int .i64 x3, .int .i64 x4, .int .i64 x5, .int .i64 x6, .bool x7, .int .i64 x8, .bool x9, .slice An s.length cn, .slice A11 l11.length c11] (0, 0) _ rfl KXS.out Try.underlying25 rfl (by kernel_rfl)) rfl ?_
      exact ⟨An, s.length, cn, (by first | rfl | (simp; done) | (simp [*]; done) | (simp [errW_none, errW_some] <;> rfl) | (simp [*, errW_none, errW_some] <;> rfl)), fun _ => RS.out, BS.out⟩
    rw [if_neg c3] at H
    have c3b : decide ((b.length : Int) < 2) = false := decide_eq_false c3
    have c3c : decide (b.length < 2) = false := decide_eq_false (by omega)
    obtain ⟨ad2, ead2, hx1⟩ := Kd.at_int (Kd.C_below HC.out B.out) 1 (by omega) (by omega)
    obtain rfl : ad = ad2 := (by injection ead2)
    simp only [show (1 : Int).toNat = 1 from rfl, Nat.reduceMul, Nat.reduceEqDiff, Go.Addr.add, ↓reduceIte] at hx1
    have q2 : (1 < b.length) = True := eq_true (by omega)
    by_cases c4 : (rd b 1) < 2
    · rw [if_pos c4] at H
      have c4b : decide ((rd b 1) < 2) = true := decide_eq_true c4
      simp only [Option.some.injEq, Prod.mk.injEq] at H
      obtain ⟨rfl, rfl, rfl, rfl, rfl, rfl, rfl, rfl, rfl, rfl, rfl, rfl⟩ := H
      go_wp2_with (first | ((with_reducible refine gate_store (t := 25) (p := 4) rfl ?_); refine store_event (t := 25) (p := 4) (v := ?vo_x4) (w1 := put12 wr gr (.int .i64 x0) (.int .i64 x1) (.int .i64 x2) (.int .i64 x3) (.int .i64 x4) (.int .i64 x5) (.int .i64 x6) (.bool x7) (.int .i64 x8) (.bool x9) (.slice An s.length cn) (.slice A11 l11.length c11)) ?hg ?ho ?hn ?hr ?_; (case ho => rfl); (case hg => rfl); (case hn => rfl); (case hr => first | (go_simp; done) | (go_simp; rfl)); intro vS hw; have RS : Aside0 (Kd.R k60 60 vS w.heap.size (fun k_ => w.heap.size ≤ k_) (.slice An s.length cn) s) := ⟨by rw [hw]; exact Kd.R_mono (Kd.R_step (Kd.R_types R.out KR.out (by decide)) (fun _ hk _ => far12 hk.2)) (fun _ hk => hk.1)⟩; have KXS : Aside0 (vS.heap[gr]? = some (.cells #[.int .i64 x0, .int .i64 x1, .int .i64 x2, .int .i64 x3, .int .i64 x4, .int .i64 x5, .int .i64 x6, .bool x7, .int .i64 x8, .bool x9, .slice An s.length cn, .slice A11 l11.length c11] 25 (0, 0))) := ⟨by rw [hw]; exact set12 KR.out⟩; have BS : Aside0 (Below w.heap.size w vS) := ⟨by rw [hw]; refine below_set ?_ GR.out; refine below_set ?_ GR.out; refine below_set ?_ GR.out; refine below_set ?_ GR.out; refine below_set ?_ GR.out; refine below_set ?_ GR.out; refine below_set ?_ GR.out; refine below_set ?_ GR.out; refine below_set ?_ GR.out; refine below_set ?_ GR.out; refine below_set ?_ GR.out; refine below_set ?_ GR.out; exact B.out⟩; clear hw hczs_0 hfzs_0 hczs_1 hfzs_1 hczs_2 hfzs_2 hczs_3 hfzs_3 hczs_4 hfzs_4 hczs_5 hfzs_5 hczs_6 hfzs_6 hczs_7 hfzs_7 hczs_8 hfzs_8 hczs_9 hfzs_9 hczs_10 hfzs_10 hczs_11 hfzs_11 hczr_0 hfzr_0 hczr_1 hfzr_1 hczr_2 hfzr_2 hczr_3 hfzr_3 hczr_4 hfzr_4 hczr_5 hfzr_5 hczr_6 hfzr_6 hczr_7 hfzr_7 hczr_8 hfzr_8 hczr_9 hfzr_9 hczr_10 hfzr_10 hczr_11 hfzr_11; obtain ⟨⟨hczz_0, hczz_1, hczz_2, hczz_3, hczz_4, hczz_5, hczz_6, hczz_7, hczz_8, hczz_9, hczz_10, hczz_11⟩, hfzz_0, hfzz_1, hfzz_2, hfzz_3, hfzz_4, hfzz_5, hfzz_6, hfzz_7, hfzz_8, hfzz_9, hfzz_10, hfzz_11⟩ := cells12 KXS.out))
      refine bodyPost_ret (results_ct rfl _ _ gr 25 #[.int .i64 x0, .int .i64 x1, .int .i64 x2, .int .i64 x3, .int .i64 x4, .int .i64 x5, .int .i64 x6, .bool x7, .int .i64 x8, .bool x9, .slice An s.length cn, .slice A11 l11.length c11] (0, 0) _ rfl KXS.out Try.underlying25 rfl (by kernel_rfl)) rfl ?_
      exact ⟨An, s.length, cn, (by first | rfl | (simp; done) | (simp [*]; done) | (simp [errW_none, errW_some] <;> rfl) | (simp [*, errW_none, errW_some] <;> rfl)), fun _ => RS.out, BS.out⟩
    rw [if_neg c4] at H
    have c4b : decide ((rd b 1) < 2) = false := decide_eq_false c4
    by_cases c5 : (b.length : Int) < (wrap64 (rd b 1))
    · rw [if_pos c5] at H
      have c5b : decide ((b.length : Int) < (wrap64 (rd b 1))) = true := decide_eq_true c5
      have c5w := c5b
      (try simp only [← i64_w] at c5w)
      simp only [Option.some.injEq, Prod.mk.injEq] at H
      obtain ⟨rfl, rfl, rfl, rfl, rfl, rfl, rfl, rfl, rfl, rfl, rfl, rfl⟩ := H
      go_wp2_with (first | ((with_reducible refine gate_store (t := 25) (p := 4) rfl ?_); refine store_event (t := 25) (p := 4) (v := ?vo_x5) (w1 := put12 wr gr (.int .i64 x0) (.int .i64 x1) (.int .i64 x2) (.int .i64 x3) (.int .i64 x4) (.int .i64 x5) (.int .i64 x6) (.bool x7) (.int .i64 x8) (.bool x9) (.slice An s.length cn) (.slice A11 l11.length c11)) ?hg ?ho ?hn ?hr ?_; (case ho => rfl); (case hg => rfl); (case hn => rfl); (case hr => first | (go_simp; done) | (go_simp; rfl)); intro vS hw; have RS : Aside0 (Kd.R k60 60 vS w.heap.size (fun k_ => w.heap.size ≤ k_) (.slice An s.length cn) s) := ⟨by rw [hw]; exact Kd.R_mono (Kd.R_step (Kd.R_types R.out KR.out (by decide)) (fun _ hk _ => far12 hk.2)) (fun _ hk => hk.1)⟩; have KXS : Aside0 (vS.heap[gr]? = some (.cells #[.int .i64 x0, .int .i64 x1, .int .i64 x2, .int .i64 x3, .int .i64 x4, .int .i64 x5, .int .i64 x6, .bool x7, .int .i64 x8, .bool x9, .slice An s.length cn, .slice A11 l11.length c11] 25 (0, 0))) := ⟨by rw [hw]; exact set12 KR.out⟩; have BS : Aside0 (Below w.heap.size w vS) := ⟨by rw [hw]; refine below_set ?_ GR.out; refine below_set ?_ GR.out; refine below_set ?_ GR.out; refine below_set ?_ GR.out; refine below_set ?_ GR.out; refine below_set ?_ GR.out; refine below_set ?_ GR.out; refine below_set ?_ GR.out; refine below_set ?_ GR.out; refine below_set ?_ GR.out; refine below_set ?_ GR.out; refine below_set ?_ GR.out; exact B.out⟩; clear hw hczs_0 hfzs_0 hczs_1 hfzs_1 hczs_2 hfzs_2 hczs_3 hfzs_3 hczs_4 hfzs_4 hczs_5 hfzs_5 hczs_6 hfzs_6 hczs_7 hfzs_7 hczs_8 hfzs_8 hczs_9 hfzs_9 hczs_10 hfzs_10 hczs_11 hfzs_11 hczr_0 hfzr_0 hczr_1 hfzr_1 hczr_2 hfzr_2 hczr_3 hfzr_3 hczr_4 hfzr_4 hczr_5 hfzr_5 hczr_6 hfzr_6 hczr_7 hfzr_7 hczr_8 hfzr_8 hczr_9 hfzr_9 hczr_10 hfzr_10 hczr_11 hfzr_11; obtain ⟨⟨hczz_0, hczz_1, hczz_2, hczz_3, hczz_4, hczz_5, hczz_6, hczz_7, hczz_8, hczz_9, hczz_10, hczz_11⟩, hfzz_0, hfzz_1, hfzz_2, hfzz_3, hfzz_4, hfzz_5, hfzz_6, hfzz_7, hfzz_8, hfzz_9, hfzz_10, hfzz_11⟩ := cells12 KXS.out))
      refine bodyPost_ret (results_ct rfl _ _ gr 25 #[.int .i64 x0, .int .i64 x1, .int .i64 x2, .int .i64 x3, .int .i64 x4, .int .i64 x5, .int .i64 x6, .bool x7, .int .i64 x8, .bool x9, .slice An s.length cn, .slice A11 l11.length c11] (0, 0) _ rfl KXS.out Try.underlying25 rfl (by kernel_rfl)) rfl ?_
      exact ⟨An, s.length, cn, (by first | rfl | (simp; done) | (simp [*]; done) | (simp [errW_none, errW_some] <;> rfl) | (simp [*, errW_none, errW_some] <;> rfl)), fun _ => RS.out, BS.out⟩
    rw [if_neg c5] at H
    have c5b : decide ((b.length : Int) < (wrap64 (rd b 1))) = false := decide_eq_false c5
    have c5w := c5b
    (try simp only [← i64_w] at c5w)
    by_cases c6 : 0 ≤ (wrap64 (rd b 1))
    rotate_left
    · rw [if_neg c6] at H
      cases H
    rw [if_pos c6] at H
    obtain ⟨n, hn⟩ : ∃ n_ : Int, n_ = (wrap64 (rd b 1)) := ⟨_, rfl⟩
    rw [← hn] at H c5 c6
    have hnw : (IntKind.i64.wrap (rd b 1)) = n := (i64_w _).trans hn.symm
    have hnw2 : (wrap64 (rd b 1)) = n := hn.symm
    clear hn
    have hnl : n ≤ (b.length : Int) := by omega
    obtain ⟨yt, hyt⟩ : ∃ y_ : List Int, y_ = b.take n.toNat := ⟨_, rfl⟩
    rw [← hyt] at H
    obtain ⟨⟨y0, y1, y2, y3, y4, y5, y6, y7, y8, y9, sy, ok⟩, A, H⟩ := Option.bind_eq_some_iff.mp H
    dsimp only at H
    have HA := Aside0.mk A
    have HF := Aside0.mk H
    clear A H
    obtain ⟨i1, hi1, _, hsz1, _⟩ := info_parts info5
    have hlt : yt.length = n.toNat := by rw [hyt, List.length_take]; omega
    have hcut := cut_to (P := Try.prog) 22 5 .i64 Try.underlying22 hi1 (some ad) b.length cb n c6 hnl HCC.out
    rw [← hlt] at hcut
    have HT := Aside0.mk (show Kd.C (Kd.int .u8) w (some ad) yt.length yt from by rw [hyt]; exact Kd.C_take HC.out (by omega))
    have HTC := Aside0.mk (show yt.length ≤ cb from by have := HCC.out; omega)
    have hcut2 := cut_from (P := Try.prog) 22 5 .i64 Try.underlying22 hi1 1 hsz1 (some ad) b.length cb n c6 hnl
    have hr := Kd.C_drop (m := n.toNat) (c := cb) HC.out (by omega) HCC.out
    obtain ⟨A5, hA5⟩ : ∃ A1, A1 = (if cb = n.toNat then (some ad) else ((some ad) : Option Addr).map (·.add (n.toNat * 1))) := ⟨_, rfl⟩
    obtain ⟨c5', hc5⟩ : ∃ c_, c_ = cb - n.toNat := ⟨_, rfl⟩
    obtain ⟨yd, hyd⟩ : ∃ y_ : List Int, y_ = b.drop n.toNat := ⟨_, rfl⟩
    have hl5 : yd.length = b.length - n.toNat := by rw [hyd, List.length_drop]
    rw [← hyd] at hr
    replace hr : Kd.C (Kd.int .u8) w A5 yd.length yd := by rw [hA5]; exact hr
    rw [← hl5, ← hA5, ← hc5] at hcut2
    have HY := Aside0.mk hr
    have HYC := Aside0.mk (show yd.length ≤ c5' from by have := HCC.out; rw [hl5, hc5]; exact Nat.sub_le_sub_right this _)
    have HYD := Aside0.mk hyd
    have q6 := eq_true c6
    have q7 := eq_true hnl
    clear hr hi1 hsz1 hc5 hl5 hA5 hyd hyt hlt
    go_upto_region 7 with (fail)
    refine start_ (n := 11) (S := fun w' => w'.cell? ⟨gs, 0, none⟩ = some (.int .i64 x0) ∧ w'.cell? ⟨gs, 1, none⟩ = some (.int .i64 x1) ∧ w'.cell? ⟨gs, 2, none⟩ = some (.int .i64 x2) ∧ w'.cell? ⟨gs, 3, none⟩ = some (.int .i64 x3) ∧ w'.cell? ⟨gs, 4, none⟩ = some (.int .i64 x4) ∧ w'.cell? ⟨gs, 5, none⟩ = some (.int .i64 x5) ∧ w'.cell? ⟨gs, 6, none⟩ = some (.int .i64 x6) ∧ w'.cell? ⟨gs, 7, none⟩ = some (.bool x7) ∧ w'.cell? ⟨gs, 8, none⟩ = some (.int .i64 x8) ∧ w'.cell? ⟨gs, 9, none⟩ = some (.bool x9) ∧ w'.cell? ⟨gs, 10, none⟩ = some (.slice An s.length cn) ∧ w'.cell? ⟨gs, 11, none⟩ = some (.slice A11 l11.length c11)) (ds := []) #[false, false, false, false, false, false, false, false, false, false, false] (by kernel_rfl) rfl rfl ⟨(blk_cell (blk_drew KS.out) 0).trans rfl, (blk_cell (blk_drew KS.out) 1).trans rfl, (blk_cell (blk_drew KS.out) 2).trans rfl, (blk_cell (blk_drew KS.out) 3).trans rfl, (blk_cell (blk_drew KS.out) 4).trans rfl, (blk_cell (blk_drew KS.out) 5).trans rfl, (blk_cell (blk_drew KS.out) 6).trans rfl, (blk_cell (blk_drew KS.out) 7).trans rfl, (blk_cell (blk_drew KS.out) 8).trans rfl, (blk_cell (blk_drew KS.out) 9).trans rfl, (blk_cell (blk_drew KS.out) 10).trans rfl, (blk_cell (blk_drew KS.out) 11).trans rfl⟩ (fun hHeld => ?_)
    have RB := Aside0.mk (Kd.R_drew R.out)
    have KSB := Aside0.mk (blk_drew KS.out)
    have KRB := Aside0.mk (blk_drew KR.out)
    have BB := Aside0.mk (below_drew1 B.out)
    clear R KS KR B hx0 hx1
    clear hczs_0 hfzs_0 hczs_1 hfzs_1 hczs_2 hfzs_2 hczs_3 hfzs_3 hczs_4 hfzs_4 hczs_5 hfzs_5 hczs_6 hfzs_6 hczs_7 hfzs_7 hczs_8 hfzs_8 hczs_9 hfzs_9 hczs_10 hfzs_10 hczs_11 hfzs_11
    clear hczr_0 hfzr_0 hczr_1 hfzr_1 hczr_2 hfzr_2 hczr_3 hfzr_3 hczr_4 hfzr_4 hczr_5 hfzr_5 hczr_6 hfzr_6 hczr_7 hfzr_7 hczr_8 hfzr_8 hczr_9 hfzr_9 hczr_10 hfzr_10 hczr_11 hfzr_11
    generalize wr.drew = u0 at RB KSB KRB BB hHeld ⊢
    refine take_ (i := 0) (N := some 48) (v := ?_) (a' := ?_) #[true, false, false, false, false, false, false, false, false, false, false] rfl rfl (by kernel_rfl) (fun _ _ _ h => h) (Or.inl ⟨by rfl, ?_⟩) hHeld ?_ ?_
    rotate_left
    {
      rintro w' ⟨s0, s1, s2, s3, s4, s5, s6, s7, s8, s9, s10, s11⟩
      go_simp
      with_reducible rfl
    }
    rotate_left
    {
      simp only [Act.put, List.setIfInBounds_toArray, List.set_cons_zero, List.set_cons_succ, i64_w, i32_w]
      rfl
    }
    refine pure_ (i := 1) (N := some 49) (v := ?_) (a' := ?_) #[true, true, false, false, false, false, false, false, false, false, false] rfl rfl (by kernel_rfl) (fun _ _ _ h => h) (Or.inl ⟨by rfl, ?_⟩) ?_ ?_
    rotate_left
    {
      intro w'
      go_simp
      with_reducible rfl
    }
    rotate_left
    {
      simp only [Act.put, List.setIfInBounds_toArray, List.set_cons_zero, List.set_cons_succ, i64_w, i32_w]
      rfl
    }
    refine pure_ (i := 2) (N := some 50) (v := ?_) (a' := ?_) #[true, true, true, false, false, false, false, false, false, false, false] rfl rfl (by kernel_rfl) (fun _ _ _ h => h) (Or.inl ⟨by rfl, ?_⟩) ?_ ?_
    rotate_left
    {
      intro w'
      go_simp
      with_reducible rfl
    }
    rotate_left
    {
      simp only [Act.put, List.setIfInBounds_toArray, List.set_cons_zero, List.set_cons_succ, i64_w, i32_w]
      rfl
    }
    refine pure_ (i := 3) (N := some 51) (v := ?_) (a' := ?_) #[true, true, true, true, false, false, false, false, false, false, false] rfl rfl (by kernel_rfl) (fun _ _ _ h => h) (Or.inl ⟨by rfl, ?_⟩) ?_ ?_
    rotate_left
    {
      intro w'
      go_simp
      with_reducible rfl
    }
    rotate_left
    {
      simp only [Act.put, List.setIfInBounds_toArray, List.set_cons_zero, List.set_cons_succ, i64_w, i32_w]
      rfl
    }
    refine two_ (i := 4) (j := 8) (Ni := some 52) (Nj := some 7) #[true, true, true, true, true, false, false, false, false, false, false] #[true, true, true, true, false, false, false, false, true, false, false] rfl rfl rfl rfl (by kernel_rfl) (by decide) (by decide) (fun K hK => ?_) (fun K hK => ?_)
    refine goes_ Try.func51 (by kernel_rfl) rfl #[.agg #[.int .i64 x0, .int .i64 x1, .int .i64 x2, .int .i64 x3, .int .i64 x4, .int .i64 x5, .int .i64 x6, .bool x7, .int .i64 x8, .bool x9, .slice An s.length cn, .slice A11 l11.length c11], .slice (some ad) yt.length cb] (by rfl) rfl rfl wT ?_
    with_reducible refine (spec_l11Option.calls k1 x0 x1 x2 x3 x4 x5 x6 x7 x8 x9 (fun k_ => some k_ = (.slice An s.length cn : Value).ownBlock) (.slice An s.length cn) s A11 c11 l11 (some ad) cb yt y0 y1 y2 y3 y4 y5 y6 y7 y8 y9 sy ok w _ ?side1 ?side2 ?side3 ?side4 ?side5 ?side6 HA.out).mono ?_
    (case side1 => exact BB.out)
    (case side2 => exact Kd.R_tight rfl RB.out)
    (case side3 => exact Kd.C_kept_came (Kd.heap_int _) HR11.out BB.out (fun k_ h_ => RB.out.1 k_ h_.symm))
    (case side4 => exact HC11.out)
    (case side5 => exact Kd.C_kept_came (Kd.heap_int _) HT.out BB.out (fun k_ h_ => RB.out.1 k_ h_.symm))
    (case side6 => exact HTC.out)
    rintro e u1 ⟨vm, rfl, hrm, hbm, hkm⟩
    refine ⟨_, rfl, ?_⟩
    obtain ⟨Am, cm, evm⟩ := Kd.R_slice hrm
    subst evm
    have NS : Aside0 (¬ some gs = (.slice An s.length cn : Value).ownBlock) := ⟨fun h_ => (Kd.R_types RB.out KSB.out (by decide)).1 gs h_.symm |>.2 rfl⟩
    have NR : Aside0 (¬ some gr = (.slice An s.length cn : Value).ownBlock) := ⟨fun h_ => (Kd.R_types RB.out KRB.out (by decide)).1 gr h_.symm |>.2 rfl⟩
    have RC : Aside0 (Kd.R k60 60 u1 w.heap.size (fun k_ => w.heap.size ≤ k_) (.slice Am sy.length cm) sy) := ⟨Kd.R_mono hrm (fun k_ h_ => h_.elim (fun h2_ => RB.out.1 k_ h2_.symm) (fun h2_ => Nat.le_trans BB.out.size h2_))⟩
    have KSC := Aside0.mk (show u1.heap[gs]? = some (.cells #[.int .i64 x0, .int .i64 x1, .int .i64 x2, .int .i64 x3, .int .i64 x4, .int .i64 x5, .int .i64 x6, .bool x7, .int .i64 x8, .bool x9, .slice An s.length cn, .slice A11 l11.length c11] 25 (0, 0)) from blk_kept KSB.out hkm NS.out)
    have KRC := Aside0.mk (show u1.heap[gr]? = some (.cells #[.int .i64 0, .int .i64 0, .int .i64 0, .int .i64 0, .int .i64 0, .int .i64 0, .int .i64 0, .bool false, .int .i64 0, .bool false, .slice none 0 0, .slice none 0 0] 25 (0, 0)) from blk_kept KRB.out hkm NR.out)
    have BC := Aside0.mk hbm
    clear hrm hbm hkm NS NR RB KSB KRB BB hHeld
    refine hK.out _ _ ⟨(blk_cell KSC.out 0).trans rfl, (blk_cell KSC.out 1).trans rfl, (blk_cell KSC.out 2).trans rfl, (blk_cell KSC.out 3).trans rfl, (blk_cell KSC.out 4).trans rfl, (blk_cell KSC.out 5).trans rfl, (blk_cell KSC.out 6).trans rfl, (blk_cell KSC.out 7).trans rfl, (blk_cell KSC.out 8).trans rfl, (blk_cell KSC.out 9).trans rfl, (blk_cell KSC.out 10).trans rfl, (blk_cell KSC.out 11).trans rfl⟩ (fun hHeld => ?_)
    clear hK K
    refine norm_ (a' := ?_) ?_ ?_
    rotate_left
    {
      show Act.put _ (some 52) _ = _
      simp only [Act.put, List.setIfInBounds_toArray, List.set_cons_zero, List.set_cons_succ, i64_w, i32_w]
      rfl
    }
    refine pure_ (i := 5) (N := some 47) (v := ?_) (a' := ?_) #[true, true, true, true, true, true, false, false, false, false, false] rfl rfl (by kernel_rfl) (fun _ _ _ h => h) (Or.inl ⟨by rfl, ?_⟩) ?_ ?_
    rotate_left
    {
      intro w'
      go_simp
      with_reducible rfl
    }
    rotate_left
    {
      simp only [Act.put, List.setIfInBounds_toArray, List.set_cons_zero, List.set_cons_succ, i64_w, i32_w]
      rfl
    }
    refine pure_ (i := 6) (N := some 53) (v := ?_) (a' := ?_) #[true, true, true, true, true, true, true, false, false, false, false] rfl rfl (by kernel_rfl) (fun _ _ _ h => h) (Or.inl ⟨by rfl, ?_⟩) ?_ ?_
    rotate_left
    {
      intro w'
      go_simp
      with_reducible rfl
    }
    rotate_left
    {
      simp only [Act.put, List.setIfInBounds_toArray, List.set_cons_zero, List.set_cons_succ, i64_w, i32_w]
      rfl
    }
    refine pure_ (i := 7) (N := some 54) (v := ?_) (a' := ?_) #[true, true, true, true, true, true, true, true, false, false, false] rfl rfl (by kernel_rfl) (fun _ _ _ h => h) (Or.inl ⟨by rfl, ?_⟩) ?_ ?_
    rotate_left
    {
      intro w'
      go_simp
      with_reducible rfl
    }
    rotate_left
    {
      simp only [Act.put, List.setIfInBounds_toArray, List.set_cons_zero, List.set_cons_succ, i64_w, i32_w]
      rfl
    }
    refine one_ (i := 8) (N := some 7) #[true, true, true, true, true, true, true, true, true, false, false] rfl rfl (by kernel_rfl) (by decide) (fun K hK => ?_)
    refine box_step ?hg (N := 7) ?hd (cs := #[.int .i64 0, .int .i64 0, .int .i64 0, .int .i64 0, .int .i64 0, .int .i64 0, .int .i64 0, .bool false, .int .i64 0, .bool false, .slice none 0 0, .slice none 0 0]) (t := 25) ?hr ?_; (case hd => rfl); (case hg => rfl); (case hr => first | (go_simp; done) | (go_simp; rfl))
    intro g7 hg u2 hbox hb
    have RE := Aside0.mk (Kd.R_below RC.out hb)
    have KSE := Aside0.mk (show u2.heap[gs]? = some (.cells #[.int .i64 x0, .int .i64 x1, .int .i64 x2, .int .i64 x3, .int .i64 x4, .int .i64 x5, .int .i64 x6, .bool x7, .int .i64 x8, .bool x9, .slice An s.length cn, .slice A11 l11.length c11] 25 (0, 0)) from blk_below KSC.out hb)
    have KRE := Aside0.mk (show u2.heap[gr]? = some (.cells #[.int .i64 0, .int .i64 0, .int .i64 0, .int .i64 0, .int .i64 0, .int .i64 0, .int .i64 0, .bool false, .int .i64 0, .bool false, .slice none 0 0, .slice none 0 0] 25 (0, 0)) from blk_below KRC.out hb)
    have BE := Aside0.mk (below_step BC.out hb)
    have K7E := Aside0.mk (show u2.heap[g7]? = some (.cells #[.int .i64 0, .int .i64 0, .int .i64 0, .int .i64 0, .int .i64 0, .int .i64 0, .int .i64 0, .bool false, .int .i64 0, .bool false, .slice none 0 0, .slice none 0 0] 25 (0, 0)) from hbox)
    have N7S := Aside0.mk ((by rw [hg]; exact Nat.ne_of_lt (blk_lt KSC.out)) : gs ≠ g7)
    have N7R := Aside0.mk ((by rw [hg]; exact Nat.ne_of_lt (blk_lt KRC.out)) : gr ≠ g7)
    have G7 := Aside0.mk ((by rw [hg]; exact BC.out.size) : w.heap.size ≤ g7)
    clear hb hbox hg RC KSC KRC BC hHeld
    refine hK.out _ _ ⟨(blk_cell KSE.out 0).trans rfl, (blk_cell KSE.out 1).trans rfl, (blk_cell KSE.out 2).trans rfl, (blk_cell KSE.out 3).trans rfl, (blk_cell KSE.out 4).trans rfl, (blk_cell KSE.out 5).trans rfl, (blk_cell KSE.out 6).trans rfl, (blk_cell KSE.out 7).trans rfl, (blk_cell KSE.out 8).trans rfl, (blk_cell KSE.out 9).trans rfl, (blk_cell KSE.out 10).trans rfl, (blk_cell KSE.out 11).trans rfl⟩ (fun hHeld => ?_)
    clear hK K
    refine norm_ (a' := ?_) ?_ ?_
    rotate_left
    {
      show Act.put _ (some 7) _ = _
      simp only [Act.put, List.setIfInBounds_toArray, List.set_cons_zero, List.set_cons_succ, i64_w, i32_w]
      rfl
    }
    rotate_left
    refine box_step ?hg (N := 7) ?hd (cs := #[.int .i64 0, .int .i64 0, .int .i64 0, .int .i64 0, .int .i64 0, .int .i64 0, .int .i64 0, .bool false, .int .i64 0, .bool false, .slice none 0 0, .slice none 0 0]) (t := 25) ?hr ?_; (case hd => rfl); (case hg => rfl); (case hr => first | (go_simp; done) | (go_simp; rfl))
    intro g7 hg u1 hbox hb
    have RF := Aside0.mk (Kd.R_below RB.out hb)
    have KSF := Aside0.mk (show u1.heap[gs]? = some (.cells #[.int .i64 x0, .int .i64 x1, .int .i64 x2, .int .i64 x3, .int .i64 x4, .int .i64 x5, .int .i64 x6, .bool x7, .int .i64 x8, .bool x9, .slice An s.length cn, .slice A11 l11.length c11] 25 (0, 0)) from blk_below KSB.out hb)
    have KRF := Aside0.mk (show u1.heap[gr]? = some (.cells #[.int .i64 0, .int .i64 0, .int .i64 0, .int .i64 0, .int .i64 0, .int .i64 0, .int .i64 0, .bool false, .int .i64 0, .bool false, .slice none 0 0, .slice none 0 0] 25 (0, 0)) from blk_below KRB.out hb)
    have BF := Aside0.mk (below_step BB.out hb)
    have K7F := Aside0.mk (show u1.heap[g7]? = some (.cells #[.int .i64 0, .int .i64 0, .int .i64 0, .int .i64 0, .int .i64 0, .int .i64 0, .int .i64 0, .bool false, .int .i64 0, .bool false, .slice none 0 0, .slice none 0 0] 25 (0, 0)) from hbox)
    have N7S := Aside0.mk ((by rw [hg]; exact Nat.ne_of_lt (blk_lt KSB.out)) : gs ≠ g7)
    have N7R := Aside0.mk ((by rw [hg]; exact Nat.ne_of_lt (blk_lt KRB.out)) : gr ≠ g7)
    have G7 := Aside0.mk ((by rw [hg]; exact BB.out.size) : w.heap.size ≤ g7)
    clear hb hbox hg RB KSB KRB BB hHeld
    refine hK.out _ _ ⟨(blk_cell KSF.out 0).trans rfl, (blk_cell KSF.out 1).trans rfl, (blk_cell KSF.out 2).trans rfl, (blk_cell KSF.out 3).trans rfl, (blk_cell KSF.out 4).trans rfl, (blk_cell KSF.out 5).trans rfl, (blk_cell KSF.out 6).trans rfl, (blk_cell KSF.out 7).trans rfl, (blk_cell KSF.out 8).trans rfl, (blk_cell KSF.out 9).trans rfl, (blk_cell KSF.out 10).trans rfl, (blk_cell KSF.out 11).trans rfl⟩ (fun hHeld => ?_)
    clear hK K
    refine norm_ (a' := ?_) ?_ ?_
    rotate_left
    {
      show Act.put _ (some 7) _ = _
      simp only [Act.put, List.setIfInBounds_toArray, List.set_cons_zero, List.set_cons_succ, i64_w, i32_w]
      rfl
    }
    have RB := RF
    have KSB := KSF
    have KRB := KRF
    have BB := BF
    clear RF KSF KRF BF
    refine one_ (i := 4) (N := some 52) #[true, true, true, true, true, false, false, false, true, false, false] rfl rfl (by kernel_rfl) (by decide) (fun K hK => ?_)
    refine goes_ Try.func51 (by kernel_rfl) rfl #[.agg #[.int .i64 x0, .int .i64 x1, .int .i64 x2, .int .i64 x3, .int .i64 x4, .int .i64 x5, .int .i64 x6, .bool x7, .int .i64 x8, .bool x9, .slice An s.length cn, .slice A11 l11.length c11], .slice (some ad) yt.length cb] (by rfl) rfl rfl wT ?_
    with_reducible refine (spec_l11Option.calls k1 x0 x1 x2 x3 x4 x5 x6 x7 x8 x9 (fun k_ => some k_ = (.slice An s.length cn : Value).ownBlock) (.slice An s.length cn) s A11 c11 l11 (some ad) cb yt y0 y1 y2 y3 y4 y5 y6 y7 y8 y9 sy ok w _ ?side1 ?side2 ?side3 ?side4 ?side5 ?side6 HA.out).mono ?_
    (case side1 => exact BB.out)
    (case side2 => exact Kd.R_tight rfl RB.out)
    (case side3 => exact Kd.C_kept_came (Kd.heap_int _) HR11.out BB.out (fun k_ h_ => RB.out.1 k_ h_.symm))
    (case side4 => exact HC11.out)
    (case side5 => exact Kd.C_kept_came (Kd.heap_int _) HT.out BB.out (fun k_ h_ => RB.out.1 k_ h_.symm))
    (case side6 => exact HTC.out)
    rintro e u2 ⟨vm, rfl, hrm, hbm, hkm⟩
    refine ⟨_, rfl, ?_⟩
    obtain ⟨Am, cm, evm⟩ := Kd.R_slice hrm
    subst evm
    have NS : Aside0 (¬ some gs = (.slice An s.length cn : Value).ownBlock) := ⟨fun h_ => (Kd.R_types RB.out KSB.out (by decide)).1 gs h_.symm |>.2 rfl⟩
    have NR : Aside0 (¬ some gr = (.slice An s.length cn : Value).ownBlock) := ⟨fun h_ => (Kd.R_types RB.out KRB.out (by decide)).1 gr h_.symm |>.2 rfl⟩
    have RC : Aside0 (Kd.R k60 60 u2 w.heap.size (fun k_ => w.heap.size ≤ k_) (.slice Am sy.length cm) sy) := ⟨Kd.R_mono hrm (fun k_ h_ => h_.elim (fun h2_ => RB.out.1 k_ h2_.symm) (fun h2_ => Nat.le_trans BB.out.size h2_))⟩
    have KSC := Aside0.mk (show u2.heap[gs]? = some (.cells #[.int .i64 x0, .int .i64 x1, .int .i64 x2, .int .i64 x3, .int .i64 x4, .int .i64 x5, .int .i64 x6, .bool x7, .int .i64 x8, .bool x9, .slice An s.length cn, .slice A11 l11.length c11] 25 (0, 0)) from blk_kept KSB.out hkm NS.out)
    have KRC := Aside0.mk (show u2.heap[gr]? = some (.cells #[.int .i64 0, .int .i64 0, .int .i64 0, .int .i64 0, .int .i64 0, .int .i64 0, .int .i64 0, .bool false, .int .i64 0, .bool false, .slice none 0 0, .slice none 0 0] 25 (0, 0)) from blk_kept KRB.out hkm NR.out)
    have BC := Aside0.mk hbm
    have NT : Aside0 (¬ some g7 = (.slice An s.length cn : Value).ownBlock) := ⟨fun h_ => (Kd.R_types RB.out K7F.out (by decide)).1 g7 h_.symm |>.2 rfl⟩
    have K7E := Aside0.mk (show u2.heap[g7]? = some (.cells #[.int .i64 0, .int .i64 0, .int .i64 0, .int .i64 0, .int .i64 0, .int .i64 0, .int .i64 0, .bool false, .int .i64 0, .bool false, .slice none 0 0, .slice none 0 0] 25 (0, 0)) from blk_kept K7F.out hkm NT.out)
    have RE := RC
    have KSE := KSC
    have KRE := KRC
    have BE := BC
    clear hrm hbm hkm NS NR NT RB KSB KRB BB RC KSC KRC BC K7F hHeld
    refine hK.out _ _ ⟨(blk_cell KSE.out 0).trans rfl, (blk_cell KSE.out 1).trans rfl, (blk_cell KSE.out 2).trans rfl, (blk_cell KSE.out 3).trans rfl, (blk_cell KSE.out 4).trans rfl, (blk_cell KSE.out 5).trans rfl, (blk_cell KSE.out 6).trans rfl, (blk_cell KSE.out 7).trans rfl, (blk_cell KSE.out 8).trans rfl, (blk_cell KSE.out 9).trans rfl, (blk_cell KSE.out 10).trans rfl, (blk_cell KSE.out 11).trans rfl⟩ (fun hHeld => ?_)
    clear hK K
    refine norm_ (a' := ?_) ?_ ?_
    rotate_left
    {
      show Act.put _ (some 52) _ = _
      simp only [Act.put, List.setIfInBounds_toArray, List.set_cons_zero, List.set_cons_succ, i64_w, i32_w]
      rfl
    }
    refine pure_ (i := 5) (N := some 47) (v := ?_) (a' := ?_) #[true, true, true, true, true, true, false, false, true, false, false] rfl rfl (by kernel_rfl) (fun _ _ _ h => h) (Or.inl ⟨by rfl, ?_⟩) ?_ ?_
    rotate_left
    {
      intro w'
      go_simp
      with_reducible rfl
    }
    rotate_left
    {
      simp only [Act.put, List.setIfInBounds_toArray, List.set_cons_zero, List.set_cons_succ, i64_w, i32_w]
      rfl
    }
    refine pure_ (i := 6) (N := some 53) (v := ?_) (a' := ?_) #[true, true, true, true, true, true, true, false, true, false, false] rfl rfl (by kernel_rfl) (fun _ _ _ h => h) (Or.inl ⟨by rfl, ?_⟩) ?_ ?_
    rotate_left
    {
      intro w'
      go_simp
      with_reducible rfl
    }
    rotate_left
    {
      simp only [Act.put, List.setIfInBounds_toArray, List.set_cons_zero, List.set_cons_succ, i64_w, i32_w]
      rfl
    }
    refine pure_ (i := 7) (N := some 54) (v := ?_) (a' := ?_) #[true, true, true, true, true, true, true, true, true, false, false] rfl rfl (by kernel_rfl) (fun _ _ _ h => h) (Or.inl ⟨by rfl, ?_⟩) ?_ ?_
    rotate_left
    {
      intro w'
      go_simp
      with_reducible rfl
    }
    rotate_left
    {
      simp only [Act.put, List.setIfInBounds_toArray, List.set_cons_zero, List.set_cons_succ, i64_w, i32_w]
      rfl
    }
    all_goals (
      refine one_ (i := 9) (N := none) #[true, true, true, true, true, true, true, true, true, true, false] rfl rfl (by kernel_rfl) (by decide) (fun K hK => ?_)
      obtain ⟨⟨hcz7_0, hcz7_1, hcz7_2, hcz7_3, hcz7_4, hcz7_5, hcz7_6, hcz7_7, hcz7_8, hcz7_9, hcz7_10, hcz7_11⟩, hfz7_0, hfz7_1, hfz7_2, hfz7_3, hfz7_4, hfz7_5, hfz7_6, hfz7_7, hfz7_8, hfz7_9, hfz7_10, hfz7_11⟩ := cells12 K7E.out
      refine skip_ (w1 := put12 u2 g7 (.int .i64 y0) (.int .i64 y1) (.int .i64 y2) (.int .i64 y3) (.int .i64 y4) (.int .i64 y5) (.int .i64 y6) (.bool y7) (.int .i64 y8) (.bool y9) (.slice Am sy.length cm) (.slice A11 l11.length c11)) (by rfl) rfl ?_ ?_
      {
        first | (go_simp; done) | (go_simp; rfl)
      }
      generalize hu3 : put12 u2 g7 (.int .i64 y0) (.int .i64 y1) (.int .i64 y2) (.int .i64 y3) (.int .i64 y4) (.int .i64 y5) (.int .i64 y6) (.bool y7) (.int .i64 y8) (.bool y9) (.slice Am sy.length cm) (.slice A11 l11.length c11) = u3
      have RG : Aside0 (Kd.R k60 60 u3 w.heap.size (fun k_ => w.heap.size ≤ k_) (.slice Am sy.length cm) sy) := ⟨by rw [← hu3]; exact Kd.R_mono (Kd.R_step (Kd.R_types RE.out K7E.out (by decide)) (fun _ hk _ => far12 hk.2)) (fun _ hk => hk.1)⟩
      have KSG : Aside0 (u3.heap[gs]? = some (.cells #[.int .i64 x0, .int .i64 x1, .int .i64 x2, .int .i64 x3, .int .i64 x4, .int .i64 x5, .int .i64 x6, .bool x7, .int .i64 x8, .bool x9, .slice An s.length cn, .slice A11 l11.length c11] 25 (0, 0))) := ⟨by rw [← hu3]; exact (far12 N7S.out).trans KSE.out⟩
      have KRG : Aside0 (u3.heap[gr]? = some (.cells #[.int .i64 0, .int .i64 0, .int .i64 0, .int .i64 0, .int .i64 0, .int .i64 0, .int .i64 0, .bool false, .int .i64 0, .bool false, .slice none 0 0, .slice none 0 0] 25 (0, 0))) := ⟨by rw [← hu3]; exact (far12 N7R.out).trans KRE.out⟩
      have K7G : Aside0 (u3.heap[g7]? = some (.cells #[.int .i64 y0, .int .i64 y1, .int .i64 y2, .int .i64 y3, .int .i64 y4, .int .i64 y5, .int .i64 y6, .bool y7, .int .i64 y8, .bool y9, .slice Am sy.length cm, .slice A11 l11.length c11] 25 (0, 0))) := ⟨by rw [← hu3]; exact set12 K7E.out⟩
      have BG : Aside0 (Below w.heap.size w u3) := ⟨by rw [← hu3]; refine below_set ?_ G7.out; refine below_set ?_ G7.out; refine below_set ?_ G7.out; refine below_set ?_ G7.out; refine below_set ?_ G7.out; refine below_set ?_ G7.out; refine below_set ?_ G7.out; refine below_set ?_ G7.out; refine below_set ?_ G7.out; refine below_set ?_ G7.out; refine below_set ?_ G7.out; refine below_set ?_ G7.out; exact BE.out⟩
      refine hK.out _ _ ⟨(blk_cell KSG.out 0).trans rfl, (blk_cell KSG.out 1).trans rfl, (blk_cell KSG.out 2).trans rfl, (blk_cell KSG.out 3).trans rfl, (blk_cell KSG.out 4).trans rfl, (blk_cell KSG.out 5).trans rfl, (blk_cell KSG.out 6).trans rfl, (blk_cell KSG.out 7).trans rfl, (blk_cell KSG.out 8).trans rfl, (blk_cell KSG.out 9).trans rfl, (blk_cell KSG.out 10).trans rfl, (blk_cell KSG.out 11).trans rfl⟩ (fun hHeld => ?_)
      clear hK K
      refine pure_ (i := 10) (N := some 8) (v := ?_) (a' := ?_) #[true, true, true, true, true, true, true, true, true, true, true] rfl rfl (by kernel_rfl) (fun _ _ _ h => h) (Or.inl ⟨by rfl, ?_⟩) ?_ ?_
      rotate_left
      {
        intro w'
        go_simp
        with_reducible rfl
      }
      rotate_left
      {
        simp only [Act.put, List.setIfInBounds_toArray, List.set_cons_zero, List.set_cons_succ, i64_w, i32_w]
        rfl
      }
      refine done_ (by kernel_rfl) ?_
      clear hHeld RE KSE KRE BE K7E hu3
      clear hcz7_0 hfz7_0 hcz7_1 hfz7_1 hcz7_2 hfz7_2 hcz7_3 hfz7_3 hcz7_4 hfz7_4 hcz7_5 hfz7_5 hcz7_6 hfz7_6 hcz7_7 hfz7_7 hcz7_8 hfz7_8 hcz7_9 hfz7_9 hcz7_10 hfz7_10 hcz7_11 hfz7_11
      obtain ⟨⟨hczs_0, hczs_1, hczs_2, hczs_3, hczs_4, hczs_5, hczs_6, hczs_7, hczs_8, hczs_9, hczs_10, hczs_11⟩, hfzs_0, hfzs_1, hfzs_2, hfzs_3, hfzs_4, hfzs_5, hfzs_6, hfzs_7, hfzs_8, hfzs_9, hfzs_10, hfzs_11⟩ := cells12 KSG.out
      obtain ⟨⟨hczr_0, hczr_1, hczr_2, hczr_3, hczr_4, hczr_5, hczr_6, hczr_7, hczr_8, hczr_9, hczr_10, hczr_11⟩, hfzr_0, hfzr_1, hfzr_2, hfzr_3, hfzr_4, hfzr_5, hfzr_6, hfzr_7, hfzr_8, hfzr_9, hfzr_10, hfzr_11⟩ := cells12 KRG.out
      obtain ⟨⟨hcz7_0, hcz7_1, hcz7_2, hcz7_3, hcz7_4, hcz7_5, hcz7_6, hcz7_7, hcz7_8, hcz7_9, hcz7_10, hcz7_11⟩, hfz7_0, hfz7_1, hfz7_2, hfz7_3, hfz7_4, hfz7_5, hfz7_6, hfz7_7, hfz7_8, hfz7_9, hfz7_10, hfz7_11⟩ := cells12 K7G.out
      have H := HF.out
      clear HF
      cases ok with
      | false =>
        rw [if_neg (by decide)] at H
        simp only [Option.some.injEq, Prod.mk.injEq] at H
        obtain ⟨rfl, rfl, rfl, rfl, rfl, rfl, rfl, rfl, rfl, rfl, rfl, rfl⟩ := H
        go_wp2_with (first | ((with_reducible refine gate_store (t := 25) (p := 4) rfl ?_); refine store_event (t := 25) (p := 4) (v := ?vo_x6) (w1 := put12 u3 gr (.int .i64 x0) (.int .i64 x1) (.int .i64 x2) (.int .i64 x3) (.int .i64 x4) (.int .i64 x5) (.int .i64 x6) (.bool x7) (.int .i64 x8) (.bool x9) (.slice An s.length cn) (.slice A11 l11.length c11)) ?hg ?ho ?hn ?hr ?_; (case ho => rfl); (case hg => rfl); (case hn => rfl); (case hr => first | (go_simp; done) | (go_simp; rfl)); intro vS hw; have KXS : Aside0 (vS.heap[gr]? = some (.cells #[.int .i64 x0, .int .i64 x1, .int .i64 x2, .int .i64 x3, .int .i64 x4, .int .i64 x5, .int .i64 x6, .bool x7, .int .i64 x8, .bool x9, .slice An s.length cn, .slice A11 l11.length c11] 25 (0, 0))) := ⟨by rw [hw]; exact set12 KRG.out⟩; have BS : Aside0 (Below w.heap.size w vS) := ⟨by rw [hw]; refine below_set ?_ GR.out; refine below_set ?_ GR.out; refine below_set ?_ GR.out; refine below_set ?_ GR.out; refine below_set ?_ GR.out; refine below_set ?_ GR.out; refine below_set ?_ GR.out; refine below_set ?_ GR.out; refine below_set ?_ GR.out; refine below_set ?_ GR.out; refine below_set ?_ GR.out; refine below_set ?_ GR.out; exact BG.out⟩; clear hw hczs_0 hfzs_0 hczs_1 hfzs_1 hczs_2 hfzs_2 hczs_3 hfzs_3 hczs_4 hfzs_4 hczs_5 hfzs_5 hczs_6 hfzs_6 hczs_7 hfzs_7 hczs_8 hfzs_8 hczs_9 hfzs_9 hczs_10 hfzs_10 hczs_11 hfzs_11 hczr_0 hfzr_0 hczr_1 hfzr_1 hczr_2 hfzr_2 hczr_3 hfzr_3 hczr_4 hfzr_4 hczr_5 hfzr_5 hczr_6 hfzr_6 hczr_7 hfzr_7 hczr_8 hfzr_8 hczr_9 hfzr_9 hczr_10 hfzr_10 hczr_11 hfzr_11 hcz7_0 hfz7_0 hcz7_1 hfz7_1 hcz7_2 hfz7_2 hcz7_3 hfz7_3 hcz7_4 hfz7_4 hcz7_5 hfz7_5 hcz7_6 hfz7_6 hcz7_7 hfz7_7 hcz7_8 hfz7_8 hcz7_9 hfz7_9 hcz7_10 hfz7_10 hcz7_11 hfz7_11; obtain ⟨⟨hczz_0, hczz_1, hczz_2, hczz_3, hczz_4, hczz_5, hczz_6, hczz_7, hczz_8, hczz_9, hczz_10, hczz_11⟩, hfzz_0, hfzz_1, hfzz_2, hfzz_3, hfzz_4, hfzz_5, hfzz_6, hfzz_7, hfzz_8, hfzz_9, hfzz_10, hfzz_11⟩ := cells12 KXS.out))
        refine bodyPost_ret (results_ct rfl _ _ gr 25 #[.int .i64 x0, .int .i64 x1, .int .i64 x2, .int .i64 x3, .int .i64 x4, .int .i64 x5, .int .i64 x6, .bool x7, .int .i64 x8, .bool x9, .slice An s.length cn, .slice A11 l11.length c11] (0, 0) _ rfl KXS.out Try.underlying25 rfl (by kernel_rfl)) rfl ?_
        exact ⟨An, s.length, cn, (by first | rfl | (simp; done) | (simp [*]; done) | (simp [errW_none, errW_some] <;> rfl) | (simp [*, errW_none, errW_some] <;> rfl)), fun h_ => absurd h_ (by decide), BS.out⟩
      | true =>
        rw [if_pos rfl] at H
        have H2 := Aside0.mk (show spec_l11ReadOptions.l0 k1 y0 y1 y2 y3 y4 y5 y6 y7 y8 y9 sy l11 yd = some (r0, r1, r2, r3, r4, r5, r6, r7, r8, r9, r10, r11) from by rw [HYD.out]; exact H)
        clear H
        go_wp2_with (first | ((with_reducible refine gate_store (t := 25) (p := 2) rfl ?_); refine store_event (t := 25) (p := 2) (v := ?vo_x7) (w1 := put12 u3 gs (.int .i64 y0) (.int .i64 y1) (.int .i64 y2) (.int .i64 y3) (.int .i64 y4) (.int .i64 y5) (.int .i64 y6) (.bool y7) (.int .i64 y8) (.bool y9) (.slice Am sy.length cm) (.slice A11 l11.length c11)) ?hg ?ho ?hn ?hr ?_; (case ho => rfl); (case hg => rfl); (case hn => rfl); (case hr => first | (go_simp; done) | (go_simp; rfl)); intro vS hw; have RS : Aside0 (Kd.R k60 60 vS w.heap.size (fun k_ => w.heap.size ≤ k_) (.slice Am sy.length cm) sy) := ⟨by rw [hw]; exact Kd.R_mono (Kd.R_step (Kd.R_types RG.out KSG.out (by decide)) (fun _ hk _ => far12 hk.2)) (fun _ hk => hk.1)⟩; have KXS : Aside0 (vS.heap[gs]? = some (.cells #[.int .i64 y0, .int .i64 y1, .int .i64 y2, .int .i64 y3, .int .i64 y4, .int .i64 y5, .int .i64 y6, .bool y7, .int .i64 y8, .bool y9, .slice Am sy.length cm, .slice A11 l11.length c11] 25 (0, 0))) := ⟨by rw [hw]; exact set12 KSG.out⟩; have KOS : Aside0 (vS.heap[gr]? = some (.cells #[.int .i64 0, .int .i64 0, .int .i64 0, .int .i64 0, .int .i64 0, .int .i64 0, .int .i64 0, .bool false, .int .i64 0, .bool false, .slice none 0 0, .slice none 0 0] 25 (0, 0))) := ⟨by rw [hw]; exact (far12 NE.out.symm).trans KRG.out⟩; have BS : Aside0 (Below w.heap.size w vS) := ⟨by rw [hw]; refine below_set ?_ GS.out; refine below_set ?_ GS.out; refine below_set ?_ GS.out; refine below_set ?_ GS.out; refine below_set ?_ GS.out; refine below_set ?_ GS.out; refine below_set ?_ GS.out; refine below_set ?_ GS.out; refine below_set ?_ GS.out; refine below_set ?_ GS.out; refine below_set ?_ GS.out; refine below_set ?_ GS.out; exact BG.out⟩; clear hw hczs_0 hfzs_0 hczs_1 hfzs_1 hczs_2 hfzs_2 hczs_3 hfzs_3 hczs_4 hfzs_4 hczs_5 hfzs_5 hczs_6 hfzs_6 hczs_7 hfzs_7 hczs_8 hfzs_8 hczs_9 hfzs_9 hczs_10 hfzs_10 hczs_11 hfzs_11 hczr_0 hfzr_0 hczr_1 hfzr_1 hczr_2 hfzr_2 hczr_3 hfzr_3 hczr_4 hfzr_4 hczr_5 hfzr_5 hczr_6 hfzr_6 hczr_7 hfzr_7 hczr_8 hfzr_8 hczr_9 hfzr_9 hczr_10 hfzr_10 hczr_11 hfzr_11 hcz7_0 hfz7_0 hcz7_1 hfz7_1 hcz7_2 hfz7_2 hcz7_3 hfz7_3 hcz7_4 hfz7_4 hcz7_5 hfz7_5 hcz7_6 hfz7_6 hcz7_7 hfz7_7 hcz7_8 hfz7_8 hcz7_9 hfz7_9 hcz7_10 hfz7_10 hcz7_11 hfz7_11; obtain ⟨⟨hczz_0, hczz_1, hczz_2, hczz_3, hczz_4, hczz_5, hczz_6, hczz_7, hczz_8, hczz_9, hczz_10, hczz_11⟩, hfzz_0, hfzz_1, hfzz_2, hfzz_3, hfzz_4, hfzz_5, hfzz_6, hfzz_7, hfzz_8, hfzz_9, hfzz_10, hfzz_11⟩ := cells12 KXS.out))
        go_roundg k1
        case measure => have := HK1.out; omega
        case rel => exact ⟨y0, y1, y2, y3, y4, y5, y6, y7, y8, y9, Am, cm, sy, A5, c5', yd, (by first | rfl | (simp; done) | (simp [*]; done)), H2, ⟨by have := HK1.out; omega⟩, ⟨by first | exact RS.out | exact Kd.R_drew RS.out⟩, HY, HYC, ⟨by first | exact KXS.out | exact blk_drew KXS.out⟩, ⟨by first | exact KOS.out | exact blk_drew KOS.out⟩, ⟨by first | exact BS.out | exact below_drew1 BS.out⟩⟩
    )
theorem spec_l11ReadOptions.calls (k : Nat) (a0_0 : Int) (a0_1 : Int) (a0_2 : Int) (a0_3 : Int) (a0_4 : Int) (a0_5 : Int) (a0_6 : Int) (a0_7 : Bool) (a0_8 : Int) (a0_9 : Bool) (A11 : Option Addr) (c11 : Nat) (l11 : List Int) (A1 : Option Addr) (c1 : Nat) (l1 : List Int) (r0 : Int) (r1 : Int) (r2 : Int) (r3 : Int) (r4 : Int) (r5 : Int) (r6 : Int) (r7 : Bool) (r8 : Int) (r9 : Bool) (r10 : List (S60)) (r11 : Bool) (w : World) (hr11 : Kd.C (Kd.int .u8) w A11 l11.length l11) (hc11 : l11.length ≤ c11) (hr1 : Kd.C (Kd.int .u8) w A1 l1.length l1) (hc1 : l1.length ≤ c1) (h : spec_l11ReadOptions.f k a0_0 a0_1 a0_2 a0_3 a0_4 a0_5 a0_6 a0_7 a0_8 a0_9 l11 l1 = some (r0, r1, r2, r3, r4, r5, r6, r7, r8, r9, r10, r11)) :
    Calls Try.prog 27 #[.agg #[.int .i64 a0_0, .int .i64 a0_1, .int .i64 a0_2, .int .i64 a0_3, .int .i64 a0_4, .int .i64 a0_5, .int .i64 a0_6, .bool a0_7, .int .i64 a0_8, .bool a0_9, .slice none 0 0, .slice A11 l11.length c11], .slice A1 l1.length c1] w fun e w' => ∃ (Av_ : Option Addr) (nv_ cv_ : Nat), e = .returned (.tuple #[.agg #[.int .i64 r0, .int .i64 r1, .int .i64 r2, .int .i64 r3, .int .i64 r4, .int .i64 r5, .int .i64 r6, .bool r7, .int .i64 r8, .bool r9, .slice Av_ nv_ cv_, .slice A11 l11.length c11], .bool r11]) ∧ (r11 = true → Kd.R k60 60 w' w.heap.size (fun k_ => w.heap.size ≤ k_) (.slice Av_ nv_ cv_) r10) ∧ Below w.heap.size w w' := (spec_l11ReadOptions.walk k a0_0 a0_1 a0_2 a0_3 a0_4 a0_5 a0_6 a0_7 a0_8 a0_9 A11 c11 l11 A1 c1 l1 r0 r1 r2 r3 r4 r5 r6 r7 r8 r9 r10 r11 w hr11 hc11 hr1 hc1 h).mono fun _ _ h => h


end Go.Proofs.Ytfllcmeakcbiaaa.PFnExactDecodeSegment
