-- Written for this claim by a program of this session (wip/mkprint.py: the print, turned at a few places). Not trusted: Lean checks it.
import Derived.Test.YtfllcmeakcbiaaaPFnExactDecodeSegmentx0
import Derived.Test.YtfllcmeakcbiaaaPFnExactDecodeSegmentx1
import Derived.Test.YtfllcmeakcbiaaaPFnExactDecodeSegmentx3
namespace Go.Proofs.Ytfllcmeakcbiaaa.PFnExactDecodeSegment
open Go.RowKit Go.Proofs.YtfllcmeakcbiaaaW.PrintWords Go.Proofs.YtfllcmeakcbiaaaW.PrintLast Go.Proofs.YtfllcmeakcbiaaaW.PrintMore
attribute [local go_sem] max2_int min2_int max_two min_two max_three min_three max_four min_four   -- for this text's walks alone
set_option linter.unusedVariables false
set_option linter.unusedSimpArgs false

/-! ### spec_DecodeSegment: function 5 -/
/-! ### spec_DecodeSegment: function 5, walked by hand -/
def spec_DecodeSegment.r (d : List Int) (t : Int × Int × Int × Int × Int × Int × Int × Bool × Int × Bool × List (S60) × Bool) : Option (Int × Int × Int × Int × Int × Int × Int × Bool × Int × Bool × List (S60) × List Int × Int) := if t.2.2.2.2.2.2.2.2.2.2.2 = true then some (t.1, t.2.1, t.2.2.1, t.2.2.2.1, t.2.2.2.2.1, t.2.2.2.2.2.1, t.2.2.2.2.2.2.1, t.2.2.2.2.2.2.2.1, t.2.2.2.2.2.2.2.2.1, t.2.2.2.2.2.2.2.2.2.1, t.2.2.2.2.2.2.2.2.2.2.1, d, 0) else some (0, 0, 0, 0, 0, 0, 0, false, 0, false, [], [], 10)
def spec_DecodeSegment.t (k : Nat) (b : List Int) (n : Int) : Option (Int × Int × Int × Int × Int × Int × Int × Bool × Int × Bool × List (S60) × List Int × Int) := (spec_l03Num.f k (b.take 2)).bind fun t0 => ((spec_l03Num.f k ((b.take 4).drop 2)).bind fun t1 => ((spec_l03Num.f k ((b.take 8).drop 4)).bind fun t2 => ((spec_l03Num.f k ((b.take 12).drop 8)).bind fun t3 => ((spec_l03Num.f k ((b.take 16).drop 14)).bind fun t5 => ((spec_l01Copy.f k (b.drop n.toNat)).bind fun d => ((spec_l11ReadOptions.f k t0 t1 t2 t3 (wrap64 (Go.bits .and .u8 (rd b 13) 63)) t5 0 false 0 false d ((b.take n.toNat).drop 20)).bind (spec_DecodeSegment.r d)))))))
def spec_DecodeSegment.s (k : Nat) (b : List Int) (src dst n : Int) : Option (Int × Int × Int × Int × Int × Int × Int × Bool × Int × Bool × List (S60) × List Int × Int) := if n < 20 then some (0, 0, 0, 0, 0, 0, 0, false, 0, false, [], [], 5) else if (b.length : Int) < n then some (0, 0, 0, 0, 0, 0, 0, false, 0, false, [], [], 5) else (spec_l10Sum.f k b src dst 6).bind fun c => if c = 0 then (spec_DecodeSegment.t k b n) else some (0, 0, 0, 0, 0, 0, 0, false, 0, false, [], [], 3)
def spec_DecodeSegment.g (k : Nat) (b : List Int) (src dst : Int) : Option (Int × Int × Int × Int × Int × Int × Int × Bool × Int × Bool × List (S60) × List Int × Int) := if (b.length : Int) < 20 then some (0, 0, 0, 0, 0, 0, 0, false, 0, false, [], [], 2) else if 65515 < (b.length : Int) then some (0, 0, 0, 0, 0, 0, 0, false, 0, false, [], [], 7) else spec_DecodeSegment.s k b src dst (wrap64 ((wrap64 ((rd b 12) / 16)) * 4))
def spec_DecodeSegment.f (k : Nat) (b : List Int) (src dst : Int) : Option (Int × Int × Int × Int × Int × Int × Int × Bool × Int × Bool × List (S60) × List Int × Int) := (spec_l02AddrOK.f src).bind fun p => if p = true then ((spec_l02AddrOK.f dst).bind fun q => if q = true then (spec_DecodeSegment.g k b src dst) else some (0, 0, 0, 0, 0, 0, 0, false, 0, false, [], [], 1)) else some (0, 0, 0, 0, 0, 0, 0, false, 0, false, [], [], 1)
def spec_DecodeSegment.Post (r0 : Int) (r1 : Int) (r2 : Int) (r3 : Int) (r4 : Int) (r5 : Int) (r6 : Int) (r7 : Bool) (r8 : Int) (r9 : Bool) (r10 : List (S60)) (r11 : List Int) (r12 : Int) (w : World) (e : Ending) (w' : World) : Prop := ∃ v10_ v11_ : Value, e = .returned (.tuple #[.agg #[.int .i64 r0, .int .i64 r1, .int .i64 r2, .int .i64 r3, .int .i64 r4, .int .i64 r5, .int .i64 r6, .bool r7, .int .i64 r8, .bool r9, v10_, v11_], .int .i64 r12]) ∧ Kd.R k60 60 w' w.heap.size (fun k_ => w.heap.size ≤ k_) v10_ r10 ∧ Kd.R (Kd.int .u8) 5 w' w.heap.size (fun k_ => w.heap.size ≤ k_) v11_ r11 ∧ Below w.heap.size w w'
theorem spec_DecodeSegment.t.mono : ∀ y0 y1 k, LeO (spec_DecodeSegment.t k y0 y1) (spec_DecodeSegment.t (k + 1) y0 y1) := by
  intro y0 y1 k
  unfold spec_DecodeSegment.t
  repeat' first
    | (with_reducible exact spec_l03Num.mono _ _)
    | (with_reducible exact spec_l01Copy.mono _ _)
    | (with_reducible exact spec_l11ReadOptions.mono _ _ _ _ _ _ _ _ _ _ _ _ _)
    | (with_reducible exact LeO.refl _)
    | (with_reducible exact LeO.none _)
    | (with_reducible refine LeO.ite ?_ ?_)
    | (with_reducible refine LeO.bind ?_ (fun _ => ?_))
    | exact spec_l03Num.mono _ _
    | exact spec_l01Copy.mono _ _
    | exact spec_l11ReadOptions.mono _ _ _ _ _ _ _ _ _ _ _ _ _
    | exact LeO.none _
    | refine LeO.ite ?_ ?_
    | refine LeO.bind ?_ (fun _ => ?_)
theorem spec_DecodeSegment.s.mono : ∀ y0 y1 y2 y3 k, LeO (spec_DecodeSegment.s k y0 y1 y2 y3) (spec_DecodeSegment.s (k + 1) y0 y1 y2 y3) := by
  intro y0 y1 y2 y3 k
  unfold spec_DecodeSegment.s
  repeat' first
    | (with_reducible exact spec_l10Sum.mono _ _ _ _ _)
    | (with_reducible exact spec_DecodeSegment.t.mono _ _ _)
    | (with_reducible exact LeO.refl _)
    | (with_reducible exact LeO.none _)
    | (with_reducible refine LeO.ite ?_ ?_)
    | (with_reducible refine LeO.bind ?_ (fun _ => ?_))
    | exact spec_l10Sum.mono _ _ _ _ _
    | exact spec_DecodeSegment.t.mono _ _ _
    | exact LeO.none _
    | refine LeO.ite ?_ ?_
    | refine LeO.bind ?_ (fun _ => ?_)
theorem spec_DecodeSegment.g.mono : ∀ y0 y1 y2 k, LeO (spec_DecodeSegment.g k y0 y1 y2) (spec_DecodeSegment.g (k + 1) y0 y1 y2) := by
  intro y0 y1 y2 k
  unfold spec_DecodeSegment.g
  repeat' first
    | (with_reducible exact spec_DecodeSegment.s.mono _ _ _ _ _)
    | (with_reducible exact LeO.refl _)
    | (with_reducible exact LeO.none _)
    | (with_reducible refine LeO.ite ?_ ?_)
    | (with_reducible refine LeO.bind ?_ (fun _ => ?_))
    | exact spec_DecodeSegment.s.mono _ _ _ _ _
    | exact LeO.none _
    | refine LeO.ite ?_ ?_
    | refine LeO.bind ?_ (fun _ => ?_)
theorem spec_DecodeSegment.mono : ∀ y0 y1 y2 k, LeO (spec_DecodeSegment.f k y0 y1 y2) (spec_DecodeSegment.f (k + 1) y0 y1 y2) := by
  intro y0 y1 y2 k
  unfold spec_DecodeSegment.f
  repeat' first
    | (with_reducible exact spec_DecodeSegment.g.mono _ _ _ _)
    | (with_reducible exact LeO.refl _)
    | (with_reducible exact LeO.none _)
    | (with_reducible refine LeO.ite ?_ ?_)
    | (with_reducible refine LeO.bind ?_ (fun _ => ?_))
    | exact spec_DecodeSegment.g.mono _ _ _ _
    | exact LeO.none _
    | refine LeO.ite ?_ ?_
    | refine LeO.bind ?_ (fun _ => ?_)
def spec_DecodeSegment.T12 : Bool × List (List Nat × List Nat) := (true, [([], []), ([0], [0]), ([1], [1]), ([], []), ([3], [3]), ([4, 2], [4]), ([], []), ([6], [6]), ([7, 5], [7]), ([], []), ([9], [9]), ([10, 8], [10]), ([], []), ([12], [12]), ([13], [13]), ([14], [14]), ([15], [15]), ([], []), ([17], [17]), ([18, 11], [18]), ([], []), ([], []), ([20, 21], [20, 21]), ([22, 19], [22]), ([2, 5, 8, 11, 16, 19, 23], [2, 5, 8, 11, 16, 19, 23]), ([], []), ([25, 24, 23, 0, 1, 2, 3, 4, 5, 6, 7, 8, 9, 10, 11, 12, 13, 14, 15, 16, 17, 18, 19, 20, 21, 22, 23, 24, 25], [24, 25])])
def spec_DecodeSegment.B12 : List Nat := [0, 1, 3, 0, 8, 31, 0, 64, 255, 0, 512, 2047, 0, 4096, 12288, 28672, 61440, 0, 131072, 397311, 0, 0, 3145728, 8261631, 16777215, 0, 67108863]
theorem spec_DecodeSegment.tab12 : rtab .any (opsOf Try.f5 12) = spec_DecodeSegment.T12 := by kernel_rfl
theorem spec_DecodeSegment.bits12 : waitsOk spec_DecodeSegment.T12.2 spec_DecodeSegment.B12 = true := by kernel_rfl
def spec_DecodeSegment.T13 : Bool × List (List Nat × List Nat) := (true, [([], []), ([], []), ([], []), ([1, 2], [1, 2]), ([0, 3], [0, 3]), ([4], [4]), ([5], [5]), ([5], [5]), ([6, 4, 0, 1, 2, 3, 4, 5, 6], [6]), ([7, 8, 0, 1, 2, 3, 4, 5, 6, 7, 8], [7])])
def spec_DecodeSegment.B13 : List Nat := [0, 0, 0, 6, 15, 31, 63, 63, 127, 511]
theorem spec_DecodeSegment.tab13 : rtab .any (opsOf Try.f5 13) = spec_DecodeSegment.T13 := by kernel_rfl
theorem spec_DecodeSegment.bits13 : waitsOk spec_DecodeSegment.T13.2 spec_DecodeSegment.B13 = true := by kernel_rfl
def spec_DecodeSegment.Good (k : Nat) (b : List Int) (src dst : Int) : Prop := spec_l02AddrOK.f src = some true ∧ spec_l02AddrOK.f dst = some true ∧ ¬ (b.length : Int) < 20 ∧ ¬ 65515 < (b.length : Int) ∧ ¬ wrap64 ((wrap64 ((rd b 12) / 16)) * 4) < 20 ∧ ¬ (b.length : Int) < wrap64 ((wrap64 ((rd b 12) / 16)) * 4) ∧ spec_l10Sum.f k b src dst 6 = some 0
set_option maxHeartbeats 60000000 in
set_option maxRecDepth 100000 in
theorem spec_DecodeSegment.early (k : Nat) (A0 : Option Addr) (c0 : Nat) (l0 : List Int) (a1 a2 : Int) (r0 : Int) (r1 : Int) (r2 : Int) (r3 : Int) (r4 : Int) (r5 : Int) (r6 : Int) (r7 : Bool) (r8 : Int) (r9 : Bool) (r10 : List (S60)) (r11 : List Int) (r12 : Int) (w : World) (hr0 : Kd.C (Kd.int .u8) w A0 l0.length l0) (hc0 : l0.length ≤ c0) (h : spec_DecodeSegment.f k l0 a1 a2 = some (r0, r1, r2, r3, r4, r5, r6, r7, r8, r9, r10, r11, r12)) (hG : ¬ spec_DecodeSegment.Good k l0 a1 a2) :
    Calls Try.prog 5 #[.slice A0 l0.length c0, .int .i64 a1, .int .i64 a2] w (spec_DecodeSegment.Post r0 r1 r2 r3 r4 r5 r6 r7 r8 r9 r10 r11 r12 w) := by
  have hu25 := Try.underlying25
  have hu60 := Try.underlying60
  have HR0 := Aside0.mk hr0
  have HC0 := Aside0.mk hc0
  clear hr0 hc0
  have H' := Aside0.mk h
  have HG := Aside0.mk hG
  clear h hG
  have B := Aside0.mk (Below.refl w.heap.size w)
  go_enter Try.func5, Try.ntmps5
  go_upto_region 1 with (first
    | ((with_reducible refine gate_dst (N := 6) rfl ?_); refine box_event ?hg (N := 6) ?hd (cs := #[.int .i64 0, .int .i64 0, .int .i64 0, .int .i64 0, .int .i64 0, .int .i64 0, .int .i64 0, .bool false, .int .i64 0, .bool false, .slice none 0 0, .slice none 0 0]) (t := 25) ?hr ?_; (case hd => rfl); (case hg => rfl); (case hr => first | (go_simp; done) | (go_simp; rfl)); intro g6 hg v1 hbox hb; have K6 := Aside0.mk (show v1.heap[g6]? = some (.cells #[.int .i64 0, .int .i64 0, .int .i64 0, .int .i64 0, .int .i64 0, .int .i64 0, .int .i64 0, .bool false, .int .i64 0, .bool false, .slice none 0 0, .slice none 0 0] 25 (0, 0)) from hbox); have G6 := Aside0.mk ((by rw [hg]; exact B.out.size) : w.heap.size ≤ g6); skip; replace B := Aside0.mk (below_step B.out hb); clear hb hbox hg))
  have H := H'.out
  clear H'
  unfold spec_DecodeSegment.f at H
  replace H := Option.bind_eq_some_iff.mp H
  obtain ⟨p, Ap, H⟩ := H
  have P1 := Aside0.mk Ap
  clear Ap
  cases p with
  | false =>
    rw [if_neg (by decide)] at H
    simp only [Option.some.injEq, Prod.mk.injEq] at H
    obtain ⟨rfl, rfl, rfl, rfl, rfl, rfl, rfl, rfl, rfl, rfl, rfl, rfl, rfl⟩ := H
    go_wp2_with (first
        | ((with_reducible refine gate_callee (f := 23) rfl ?_); refine goesL_ (some 12) rfl rfl Try.func23 (by kernel_rfl) rfl #[.int .i64 a1] rfl wT ?_; (with_reducible refine (spec_l02AddrOK.calls a1 false _ P1.out).mono ?_); rintro e v4 ⟨rfl, dd⟩; refine ⟨_, rfl, ?_⟩; have hb := dd.below; replace B := Aside0.mk (below_step B.out hb); replace K6 := Aside0.mk (blk_below K6.out hb); clear hb dd; obtain ⟨⟨hcza_0, hcza_1, hcza_2, hcza_3, hcza_4, hcza_5, hcza_6, hcza_7, hcza_8, hcza_9, hcza_10, hcza_11⟩, hfza_0, hfza_1, hfza_2, hfza_3, hfza_4, hfza_5, hfza_6, hfza_7, hfza_8, hfza_9, hfza_10, hfza_11⟩ := cells12 K6.out)
        | ((with_reducible refine gate_store (t := 25) (p := 6) rfl ?_); refine store_event (t := 25) (p := 6) (v := ?vo_1) (w1 := put12 v4 g6 (.int .i64 0) (.int .i64 0) (.int .i64 0) (.int .i64 0) (.int .i64 0) (.int .i64 0) (.int .i64 0) (.bool false) (.int .i64 0) (.bool false) (.slice none 0 0) (.slice none 0 0)) ?hg ?ho ?hn ?hr ?_; (case ho => rfl); (case hg => rfl); (case hn => rfl); (case hr => first | (go_simp; done) | (go_simp; rfl)); intro vS hw; replace K6 : Aside0 (vS.heap[g6]? = some (.cells #[.int .i64 0, .int .i64 0, .int .i64 0, .int .i64 0, .int .i64 0, .int .i64 0, .int .i64 0, .bool false, .int .i64 0, .bool false, .slice none 0 0, .slice none 0 0] 25 (0, 0))) := ⟨by rw [hw]; exact set12 K6.out⟩; replace B : Aside0 (Below w.heap.size w vS) := ⟨by rw [hw]; refine below_set ?_ G6.out; refine below_set ?_ G6.out; refine below_set ?_ G6.out; refine below_set ?_ G6.out; refine below_set ?_ G6.out; refine below_set ?_ G6.out; refine below_set ?_ G6.out; refine below_set ?_ G6.out; refine below_set ?_ G6.out; refine below_set ?_ G6.out; refine below_set ?_ G6.out; refine below_set ?_ G6.out; exact B.out⟩; clear hw; skip))
    refine bodyPost_ret (results_ct rfl _ _ g6 25 #[.int .i64 0, .int .i64 0, .int .i64 0, .int .i64 0, .int .i64 0, .int .i64 0, .int .i64 0, .bool false, .int .i64 0, .bool false, .slice none 0 0, .slice none 0 0] (0, 0) _ rfl K6.out Try.underlying25 rfl (by kernel_rfl)) rfl ?_
    exact ⟨.slice none 0 0, .slice none 0 0, (by first | rfl | (simp; done) | (simp [*]; done) | (simp [errW_none, errW_some] <;> rfl) | (simp [*, errW_none, errW_some] <;> rfl)), Kd.R_nil _ _ _ _ _, Kd.R_nil _ _ _ _ _, B.out⟩
  | true =>
    rw [if_pos rfl] at H
    replace H := Option.bind_eq_some_iff.mp H
    obtain ⟨q, Aq, H⟩ := H
    have P2 := Aside0.mk Aq
    clear Aq
    cases q with
    | false =>
      rw [if_neg (by decide)] at H
      simp only [Option.some.injEq, Prod.mk.injEq] at H
      obtain ⟨rfl, rfl, rfl, rfl, rfl, rfl, rfl, rfl, rfl, rfl, rfl, rfl, rfl⟩ := H
      go_wp2_with (first
          | ((with_reducible refine gate_callee (f := 23) rfl ?_); refine goesL_ (some 12) rfl rfl Try.func23 (by kernel_rfl) rfl #[.int .i64 a1] rfl wT ?_; (with_reducible refine (spec_l02AddrOK.calls a1 true _ P1.out).mono ?_); rintro e v4 ⟨rfl, dd⟩; refine ⟨_, rfl, ?_⟩; have hb := dd.below; replace B := Aside0.mk (below_step B.out hb); replace K6 := Aside0.mk (blk_below K6.out hb); clear hb dd; skip)
          | (go_at_call 23; (with_reducible refine (spec_l02AddrOK.calls a2 false _ P2.out).mono ?_); rintro e v5 ⟨rfl, dd⟩; have hb := dd.below; replace B := Aside0.mk (below_step B.out hb); replace K6 := Aside0.mk (blk_below K6.out hb); clear hb dd; obtain ⟨⟨hcza_0, hcza_1, hcza_2, hcza_3, hcza_4, hcza_5, hcza_6, hcza_7, hcza_8, hcza_9, hcza_10, hcza_11⟩, hfza_0, hfza_1, hfza_2, hfza_3, hfza_4, hfza_5, hfza_6, hfza_7, hfza_8, hfza_9, hfza_10, hfza_11⟩ := cells12 K6.out)
          | ((with_reducible refine gate_store (t := 25) (p := 6) rfl ?_); refine store_event (t := 25) (p := 6) (v := ?vo_2) (w1 := put12 v5 g6 (.int .i64 0) (.int .i64 0) (.int .i64 0) (.int .i64 0) (.int .i64 0) (.int .i64 0) (.int .i64 0) (.bool false) (.int .i64 0) (.bool false) (.slice none 0 0) (.slice none 0 0)) ?hg ?ho ?hn ?hr ?_; (case ho => rfl); (case hg => rfl); (case hn => rfl); (case hr => first | (go_simp; done) | (go_simp; rfl)); intro vS hw; replace K6 : Aside0 (vS.heap[g6]? = some (.cells #[.int .i64 0, .int .i64 0, .int .i64 0, .int .i64 0, .int .i64 0, .int .i64 0, .int .i64 0, .bool false, .int .i64 0, .bool false, .slice none 0 0, .slice none 0 0] 25 (0, 0))) := ⟨by rw [hw]; exact set12 K6.out⟩; replace B : Aside0 (Below w.heap.size w vS) := ⟨by rw [hw]; refine below_set ?_ G6.out; refine below_set ?_ G6.out; refine below_set ?_ G6.out; refine below_set ?_ G6.out; refine below_set ?_ G6.out; refine below_set ?_ G6.out; refine below_set ?_ G6.out; refine below_set ?_ G6.out; refine below_set ?_ G6.out; refine below_set ?_ G6.out; refine below_set ?_ G6.out; refine below_set ?_ G6.out; exact B.out⟩; clear hw; skip))
      refine bodyPost_ret (results_ct rfl _ _ g6 25 #[.int .i64 0, .int .i64 0, .int .i64 0, .int .i64 0, .int .i64 0, .int .i64 0, .int .i64 0, .bool false, .int .i64 0, .bool false, .slice none 0 0, .slice none 0 0] (0, 0) _ rfl K6.out Try.underlying25 rfl (by kernel_rfl)) rfl ?_
      exact ⟨.slice none 0 0, .slice none 0 0, (by first | rfl | (simp; done) | (simp [*]; done) | (simp [errW_none, errW_some] <;> rfl) | (simp [*, errW_none, errW_some] <;> rfl)), Kd.R_nil _ _ _ _ _, Kd.R_nil _ _ _ _ _, B.out⟩
    | true =>
      rw [if_pos rfl] at H
      unfold spec_DecodeSegment.g at H
      by_cases c1 : (l0.length : Int) < 20
      · rw [if_pos c1] at H
        have c1b : decide ((l0.length : Int) < 20) = true := decide_eq_true c1
        have c1c : decide (l0.length < 20) = true := decide_eq_true (by omega)
        simp only [Option.some.injEq, Prod.mk.injEq] at H
        obtain ⟨rfl, rfl, rfl, rfl, rfl, rfl, rfl, rfl, rfl, rfl, rfl, rfl, rfl⟩ := H
        go_wp2_with (first
            | ((with_reducible refine gate_callee (f := 23) rfl ?_); refine goesL_ (some 12) rfl rfl Try.func23 (by kernel_rfl) rfl #[.int .i64 a1] rfl wT ?_; (with_reducible refine (spec_l02AddrOK.calls a1 true _ P1.out).mono ?_); rintro e v4 ⟨rfl, dd⟩; refine ⟨_, rfl, ?_⟩; have hb := dd.below; replace B := Aside0.mk (below_step B.out hb); replace K6 := Aside0.mk (blk_below K6.out hb); clear hb dd; skip)
            | (go_at_call 23; (with_reducible refine (spec_l02AddrOK.calls a2 true _ P2.out).mono ?_); rintro e v5 ⟨rfl, dd⟩; have hb := dd.below; replace B := Aside0.mk (below_step B.out hb); replace K6 := Aside0.mk (blk_below K6.out hb); clear hb dd; obtain ⟨⟨hcza_0, hcza_1, hcza_2, hcza_3, hcza_4, hcza_5, hcza_6, hcza_7, hcza_8, hcza_9, hcza_10, hcza_11⟩, hfza_0, hfza_1, hfza_2, hfza_3, hfza_4, hfza_5, hfza_6, hfza_7, hfza_8, hfza_9, hfza_10, hfza_11⟩ := cells12 K6.out)
            | ((with_reducible refine gate_store (t := 25) (p := 6) rfl ?_); refine store_event (t := 25) (p := 6) (v := ?vo_3) (w1 := put12 v5 g6 (.int .i64 0) (.int .i64 0) (.int .i64 0) (.int .i64 0) (.int .i64 0) (.int .i64 0) (.int .i64 0) (.bool false) (.int .i64 0) (.bool false) (.slice none 0 0) (.slice none 0 0)) ?hg ?ho ?hn ?hr ?_; (case ho => rfl); (case hg => rfl); (case hn => rfl); (case hr => first | (go_simp; done) | (go_simp; rfl)); intro vS hw; replace K6 : Aside0 (vS.heap[g6]? = some (.cells #[.int .i64 0, .int .i64 0, .int .i64 0, .int .i64 0, .int .i64 0, .int .i64 0, .int .i64 0, .bool false, .int .i64 0, .bool false, .slice none 0 0, .slice none 0 0] 25 (0, 0))) := ⟨by rw [hw]; exact set12 K6.out⟩; replace B : Aside0 (Below w.heap.size w vS) := ⟨by rw [hw]; refine below_set ?_ G6.out; refine below_set ?_ G6.out; refine below_set ?_ G6.out; refine below_set ?_ G6.out; refine below_set ?_ G6.out; refine below_set ?_ G6.out; refine below_set ?_ G6.out; refine below_set ?_ G6.out; refine below_set ?_ G6.out; refine below_set ?_ G6.out; refine below_set ?_ G6.out; refine below_set ?_ G6.out; exact B.out⟩; clear hw; skip))
        refine bodyPost_ret (results_ct rfl _ _ g6 25 #[.int .i64 0, .int .i64 0, .int .i64 0, .int .i64 0, .int .i64 0, .int .i64 0, .int .i64 0, .bool false, .int .i64 0, .bool false, .slice none 0 0, .slice none 0 0] (0, 0) _ rfl K6.out Try.underlying25 rfl (by kernel_rfl)) rfl ?_
        exact ⟨.slice none 0 0, .slice none 0 0, (by first | rfl | (simp; done) | (simp [*]; done) | (simp [errW_none, errW_some] <;> rfl) | (simp [*, errW_none, errW_some] <;> rfl)), Kd.R_nil _ _ _ _ _, Kd.R_nil _ _ _ _ _, B.out⟩
      rw [if_neg c1] at H
      have c1b : decide ((l0.length : Int) < 20) = false := decide_eq_false c1
      have c1c : decide (l0.length < 20) = false := decide_eq_false (by omega)
      by_cases c2 : 65515 < (l0.length : Int)
      · rw [if_pos c2] at H
        have c2b : decide (65515 < (l0.length : Int)) = true := decide_eq_true c2
        have c2c : decide (65515 < l0.length) = true := decide_eq_true (by omega)
        simp only [Option.some.injEq, Prod.mk.injEq] at H
        obtain ⟨rfl, rfl, rfl, rfl, rfl, rfl, rfl, rfl, rfl, rfl, rfl, rfl, rfl⟩ := H
        go_wp2_with (first
            | ((with_reducible refine gate_callee (f := 23) rfl ?_); refine goesL_ (some 12) rfl rfl Try.func23 (by kernel_rfl) rfl #[.int .i64 a1] rfl wT ?_; (with_reducible refine (spec_l02AddrOK.calls a1 true _ P1.out).mono ?_); rintro e v4 ⟨rfl, dd⟩; refine ⟨_, rfl, ?_⟩; have hb := dd.below; replace B := Aside0.mk (below_step B.out hb); replace K6 := Aside0.mk (blk_below K6.out hb); clear hb dd; skip)
            | (go_at_call 23; (with_reducible refine (spec_l02AddrOK.calls a2 true _ P2.out).mono ?_); rintro e v5 ⟨rfl, dd⟩; have hb := dd.below; replace B := Aside0.mk (below_step B.out hb); replace K6 := Aside0.mk (blk_below K6.out hb); clear hb dd; obtain ⟨⟨hcza_0, hcza_1, hcza_2, hcza_3, hcza_4, hcza_5, hcza_6, hcza_7, hcza_8, hcza_9, hcza_10, hcza_11⟩, hfza_0, hfza_1, hfza_2, hfza_3, hfza_4, hfza_5, hfza_6, hfza_7, hfza_8, hfza_9, hfza_10, hfza_11⟩ := cells12 K6.out)
            | ((with_reducible refine gate_store (t := 25) (p := 6) rfl ?_); refine store_event (t := 25) (p := 6) (v := ?vo_4) (w1 := put12 v5 g6 (.int .i64 0) (.int .i64 0) (.int .i64 0) (.int .i64 0) (.int .i64 0) (.int .i64 0) (.int .i64 0) (.bool false) (.int .i64 0) (.bool false) (.slice none 0 0) (.slice none 0 0)) ?hg ?ho ?hn ?hr ?_; (case ho => rfl); (case hg => rfl); (case hn => rfl); (case hr => first | (go_simp; done) | (go_simp; rfl)); intro vS hw; replace K6 : Aside0 (vS.heap[g6]? = some (.cells #[.int .i64 0, .int .i64 0, .int .i64 0, .int .i64 0, .int .i64 0, .int .i64 0, .int .i64 0, .bool false, .int .i64 0, .bool false, .slice none 0 0, .slice none 0 0] 25 (0, 0))) := ⟨by rw [hw]; exact set12 K6.out⟩; replace B : Aside0 (Below w.heap.size w vS) := ⟨by rw [hw]; refine below_set ?_ G6.out; refine below_set ?_ G6.out; refine below_set ?_ G6.out; refine below_set ?_ G6.out; refine below_set ?_ G6.out; refine below_set ?_ G6.out; refine below_set ?_ G6.out; refine below_set ?_ G6.out; refine below_set ?_ G6.out; refine below_set ?_ G6.out; refine below_set ?_ G6.out; refine below_set ?_ G6.out; exact B.out⟩; clear hw; skip))
        refine bodyPost_ret (results_ct rfl _ _ g6 25 #[.int .i64 0, .int .i64 0, .int .i64 0, .int .i64 0, .int .i64 0, .int .i64 0, .int .i64 0, .bool false, .int .i64 0, .bool false, .slice none 0 0, .slice none 0 0] (0, 0) _ rfl K6.out Try.underlying25 rfl (by kernel_rfl)) rfl ?_
        exact ⟨.slice none 0 0, .slice none 0 0, (by first | rfl | (simp; done) | (simp [*]; done) | (simp [errW_none, errW_some] <;> rfl) | (simp [*, errW_none, errW_some] <;> rfl)), Kd.R_nil _ _ _ _ _, Kd.R_nil _ _ _ _ _, B.out⟩
      rw [if_neg c2] at H
      have c2b : decide (65515 < (l0.length : Int)) = false := decide_eq_false c2
      have c2c : decide (65515 < l0.length) = false := decide_eq_false (by omega)
      have HL := Aside0.mk c1
      have HU := Aside0.mk c2
      clear c1 c2
      go_upto_region 7 with (first
          | ((with_reducible refine gate_callee (f := 23) rfl ?_); refine goesL_ (some 12) rfl rfl Try.func23 (by kernel_rfl) rfl #[.int .i64 a1] rfl wT ?_; (with_reducible refine (spec_l02AddrOK.calls a1 true _ P1.out).mono ?_); rintro e v4 ⟨rfl, dd⟩; refine ⟨_, rfl, ?_⟩; have hb := dd.below; replace B := Aside0.mk (below_step B.out hb); replace K6 := Aside0.mk (blk_below K6.out hb); clear hb dd; skip)
          | (go_at_call 23; (with_reducible refine (spec_l02AddrOK.calls a2 true _ P2.out).mono ?_); rintro e v5 ⟨rfl, dd⟩; have hb := dd.below; replace B := Aside0.mk (below_step B.out hb); replace K6 := Aside0.mk (blk_below K6.out hb); clear hb dd; obtain ⟨⟨hcza_0, hcza_1, hcza_2, hcza_3, hcza_4, hcza_5, hcza_6, hcza_7, hcza_8, hcza_9, hcza_10, hcza_11⟩, hfza_0, hfza_1, hfza_2, hfza_3, hfza_4, hfza_5, hfza_6, hfza_7, hfza_8, hfza_9, hfza_10, hfza_11⟩ := cells12 K6.out))
      clear hcza_0 hfza_0 hcza_1 hfza_1 hcza_2 hfza_2 hcza_3 hfza_3 hcza_4 hfza_4 hcza_5 hfza_5 hcza_6 hfza_6 hcza_7 hfza_7 hcza_8 hfza_8 hcza_9 hfza_9 hcza_10 hfza_10 hcza_11 hfza_11
      obtain ⟨n, hn⟩ : ∃ n_ : Int, n_ = wrap64 ((wrap64 ((rd l0 12) / 16)) * 4) := ⟨_, rfl⟩
      rw [← hn] at H
      have hnw : wrap64 ((wrap64 ((rd l0 12) / 16)) * 4) = n := hn.symm
      have hnw2 : IntKind.i64.wrap ((IntKind.i64.wrap ((rd l0 12) / 16)) * 4) = n := by simp only [i64_w]; exact hnw
      have hnw3 : IntKind.i64.wrap ((wrap64 ((rd l0 12) / 16)) * 4) = n := by simp only [i64_w]; exact hnw
      have HNN := Aside0.mk hn
      clear hn
      obtain ⟨ad, ead, hx12⟩ := Kd.at_int (Kd.C_below HR0.out B.out) 12 (by omega) (by have := HL.out; omega)
      subst ead
      simp only [show (12 : Int).toNat = 12 from rfl, Nat.reduceMul, Nat.reduceEqDiff, Go.Addr.add, ↓reduceIte] at hx12
      have q12 : (12 < l0.length) = True := eq_true (by have := HL.out; omega)
      have q12i : ((12 : Int) < (l0.length : Int)) = True := eq_true (by have := HL.out; omega)
      unfold spec_DecodeSegment.s at H
      by_cases c3 : n < 20
      · rw [if_pos c3] at H
        have c3b : decide (n < 20) = true := decide_eq_true c3
        clear c3
        simp only [Option.some.injEq, Prod.mk.injEq] at H
        obtain ⟨rfl, rfl, rfl, rfl, rfl, rfl, rfl, rfl, rfl, rfl, rfl, rfl, rfl⟩ := H
        obtain ⟨⟨hcza_0, hcza_1, hcza_2, hcza_3, hcza_4, hcza_5, hcza_6, hcza_7, hcza_8, hcza_9, hcza_10, hcza_11⟩, hfza_0, hfza_1, hfza_2, hfza_3, hfza_4, hfza_5, hfza_6, hfza_7, hfza_8, hfza_9, hfza_10, hfza_11⟩ := cells12 K6.out
        go_wp2_with (first
            | ((with_reducible refine gate_store (t := 25) (p := 6) rfl ?_); refine store_event (t := 25) (p := 6) (v := ?vo_5) (w1 := put12 v5 g6 (.int .i64 0) (.int .i64 0) (.int .i64 0) (.int .i64 0) (.int .i64 0) (.int .i64 0) (.int .i64 0) (.bool false) (.int .i64 0) (.bool false) (.slice none 0 0) (.slice none 0 0)) ?hg ?ho ?hn ?hr ?_; (case ho => rfl); (case hg => rfl); (case hn => rfl); (case hr => first | (go_simp; done) | (go_simp; rfl)); intro vS hw; replace K6 : Aside0 (vS.heap[g6]? = some (.cells #[.int .i64 0, .int .i64 0, .int .i64 0, .int .i64 0, .int .i64 0, .int .i64 0, .int .i64 0, .bool false, .int .i64 0, .bool false, .slice none 0 0, .slice none 0 0] 25 (0, 0))) := ⟨by rw [hw]; exact set12 K6.out⟩; replace B : Aside0 (Below w.heap.size w vS) := ⟨by rw [hw]; refine below_set ?_ G6.out; refine below_set ?_ G6.out; refine below_set ?_ G6.out; refine below_set ?_ G6.out; refine below_set ?_ G6.out; refine below_set ?_ G6.out; refine below_set ?_ G6.out; refine below_set ?_ G6.out; refine below_set ?_ G6.out; refine below_set ?_ G6.out; refine below_set ?_ G6.out; refine below_set ?_ G6.out; exact B.out⟩; clear hw; skip))
        refine bodyPost_ret (results_ct rfl _ _ g6 25 #[.int .i64 0, .int .i64 0, .int .i64 0, .int .i64 0, .int .i64 0, .int .i64 0, .int .i64 0, .bool false, .int .i64 0, .bool false, .slice none 0 0, .slice none 0 0] (0, 0) _ rfl K6.out Try.underlying25 rfl (by kernel_rfl)) rfl ?_
        exact ⟨.slice none 0 0, .slice none 0 0, (by first | rfl | (simp; done) | (simp [*]; done) | (simp [errW_none, errW_some] <;> rfl) | (simp [*, errW_none, errW_some] <;> rfl)), Kd.R_nil _ _ _ _ _, Kd.R_nil _ _ _ _ _, B.out⟩
      rw [if_neg c3] at H
      have c3b : decide (n < 20) = false := decide_eq_false c3
      by_cases c4 : (l0.length : Int) < n
      · rw [if_pos c4] at H
        have c4b : decide ((l0.length : Int) < n) = true := decide_eq_true c4
        clear c3 c4
        simp only [Option.some.injEq, Prod.mk.injEq] at H
        obtain ⟨rfl, rfl, rfl, rfl, rfl, rfl, rfl, rfl, rfl, rfl, rfl, rfl, rfl⟩ := H
        obtain ⟨⟨hcza_0, hcza_1, hcza_2, hcza_3, hcza_4, hcza_5, hcza_6, hcza_7, hcza_8, hcza_9, hcza_10, hcza_11⟩, hfza_0, hfza_1, hfza_2, hfza_3, hfza_4, hfza_5, hfza_6, hfza_7, hfza_8, hfza_9, hfza_10, hfza_11⟩ := cells12 K6.out
        go_wp2_with (first
            | ((with_reducible refine gate_store (t := 25) (p := 6) rfl ?_); refine store_event (t := 25) (p := 6) (v := ?vo_6) (w1 := put12 v5 g6 (.int .i64 0) (.int .i64 0) (.int .i64 0) (.int .i64 0) (.int .i64 0) (.int .i64 0) (.int .i64 0) (.bool false) (.int .i64 0) (.bool false) (.slice none 0 0) (.slice none 0 0)) ?hg ?ho ?hn ?hr ?_; (case ho => rfl); (case hg => rfl); (case hn => rfl); (case hr => first | (go_simp; done) | (go_simp; rfl)); intro vS hw; replace K6 : Aside0 (vS.heap[g6]? = some (.cells #[.int .i64 0, .int .i64 0, .int .i64 0, .int .i64 0, .int .i64 0, .int .i64 0, .int .i64 0, .bool false, .int .i64 0, .bool false, .slice none 0 0, .slice none 0 0] 25 (0, 0))) := ⟨by rw [hw]; exact set12 K6.out⟩; replace B : Aside0 (Below w.heap.size w vS) := ⟨by rw [hw]; refine below_set ?_ G6.out; refine below_set ?_ G6.out; refine below_set ?_ G6.out; refine below_set ?_ G6.out; refine below_set ?_ G6.out; refine below_set ?_ G6.out; refine below_set ?_ G6.out; refine below_set ?_ G6.out; refine below_set ?_ G6.out; refine below_set ?_ G6.out; refine below_set ?_ G6.out; refine below_set ?_ G6.out; exact B.out⟩; clear hw; skip))
        refine bodyPost_ret (results_ct rfl _ _ g6 25 #[.int .i64 0, .int .i64 0, .int .i64 0, .int .i64 0, .int .i64 0, .int .i64 0, .int .i64 0, .bool false, .int .i64 0, .bool false, .slice none 0 0, .slice none 0 0] (0, 0) _ rfl K6.out Try.underlying25 rfl (by kernel_rfl)) rfl ?_
        exact ⟨.slice none 0 0, .slice none 0 0, (by first | rfl | (simp; done) | (simp [*]; done) | (simp [errW_none, errW_some] <;> rfl) | (simp [*, errW_none, errW_some] <;> rfl)), Kd.R_nil _ _ _ _ _, Kd.R_nil _ _ _ _ _, B.out⟩
      rw [if_neg c4] at H
      have c4b : decide ((l0.length : Int) < n) = false := decide_eq_false c4
      have HN0 := Aside0.mk (show 20 ≤ n from by omega)
      have HN1 := Aside0.mk (show n ≤ (l0.length : Int) from by omega)
      clear c3 c4
      replace H := Option.bind_eq_some_iff.mp H
      obtain ⟨c, Ac, H⟩ := H
      have E2 := Aside0.mk Ac
      clear Ac
      go_upto_region 10 with (fail)
      clear hx12 q12 q12i hnw hnw2 hnw3
      by_cases c6 : c = 0
      rotate_left
      · rw [if_neg c6] at H
        have c6b : ((c) == 0) = false := beq_eq_false_iff_ne.mpr c6
        have c6c : ((c) != 0) = true := bne_iff_ne.mpr c6
        clear c6
        simp only [Option.some.injEq, Prod.mk.injEq] at H
        obtain ⟨rfl, rfl, rfl, rfl, rfl, rfl, rfl, rfl, rfl, rfl, rfl, rfl, rfl⟩ := H
        go_wp2_with (first
            | ((with_reducible refine gate_callee (f := 24) rfl ?_); refine goesL_ (some 46) rfl rfl Try.func24 (by kernel_rfl) rfl #[.slice (some ad) l0.length c0, .int .i64 a1, .int .i64 a2, .int .i64 6] rfl wT ?_; (with_reducible refine (spec_l10Sum.calls k _ _ l0 a1 a2 6 c _ ?side1 ?side2 E2.out).mono ?_); (case side1 => exact Kd.C_below HR0.out B.out); (case side2 => exact HC0.out); rintro e v8 ⟨rfl, hb⟩; refine ⟨_, rfl, ?_⟩; replace B := Aside0.mk (below_step B.out hb); replace K6 := Aside0.mk (blk_below K6.out hb); clear hb; obtain ⟨⟨hcza_0, hcza_1, hcza_2, hcza_3, hcza_4, hcza_5, hcza_6, hcza_7, hcza_8, hcza_9, hcza_10, hcza_11⟩, hfza_0, hfza_1, hfza_2, hfza_3, hfza_4, hfza_5, hfza_6, hfza_7, hfza_8, hfza_9, hfza_10, hfza_11⟩ := cells12 K6.out)
            | ((with_reducible refine gate_store (t := 25) (p := 6) rfl ?_); refine store_event (t := 25) (p := 6) (v := ?vo_7) (w1 := put12 v8 g6 (.int .i64 0) (.int .i64 0) (.int .i64 0) (.int .i64 0) (.int .i64 0) (.int .i64 0) (.int .i64 0) (.bool false) (.int .i64 0) (.bool false) (.slice none 0 0) (.slice none 0 0)) ?hg ?ho ?hn ?hr ?_; (case ho => rfl); (case hg => rfl); (case hn => rfl); (case hr => first | (go_simp; done) | (go_simp; rfl)); intro vS hw; replace K6 : Aside0 (vS.heap[g6]? = some (.cells #[.int .i64 0, .int .i64 0, .int .i64 0, .int .i64 0, .int .i64 0, .int .i64 0, .int .i64 0, .bool false, .int .i64 0, .bool false, .slice none 0 0, .slice none 0 0] 25 (0, 0))) := ⟨by rw [hw]; exact set12 K6.out⟩; replace B : Aside0 (Below w.heap.size w vS) := ⟨by rw [hw]; refine below_set ?_ G6.out; refine below_set ?_ G6.out; refine below_set ?_ G6.out; refine below_set ?_ G6.out; refine below_set ?_ G6.out; refine below_set ?_ G6.out; refine below_set ?_ G6.out; refine below_set ?_ G6.out; refine below_set ?_ G6.out; refine below_set ?_ G6.out; refine below_set ?_ G6.out; refine below_set ?_ G6.out; exact B.out⟩; clear hw; skip))
        refine bodyPost_ret (results_ct rfl _ _ g6 25 #[.int .i64 0, .int .i64 0, .int .i64 0, .int .i64 0, .int .i64 0, .int .i64 0, .int .i64 0, .bool false, .int .i64 0, .bool false, .slice none 0 0, .slice none 0 0] (0, 0) _ rfl K6.out Try.underlying25 rfl (by kernel_rfl)) rfl ?_
        exact ⟨.slice none 0 0, .slice none 0 0, (by first | rfl | (simp; done) | (simp [*]; done) | (simp [errW_none, errW_some] <;> rfl) | (simp [*, errW_none, errW_some] <;> rfl)), Kd.R_nil _ _ _ _ _, Kd.R_nil _ _ _ _ _, B.out⟩
      exact absurd (⟨P1.out, P2.out, by have := HL.out; omega, by have := HU.out; omega, by rw [← HNN.out]; have := HN0.out; omega, by rw [← HNN.out]; have := HN1.out; omega, by rw [E2.out, c6]⟩ : spec_DecodeSegment.Good k l0 a1 a2) HG.out
set_option maxHeartbeats 60000000 in
set_option maxRecDepth 100000 in
theorem spec_DecodeSegment.main (k : Nat) (A0 : Option Addr) (c0 : Nat) (l0 : List Int) (a1 a2 : Int) (r0 : Int) (r1 : Int) (r2 : Int) (r3 : Int) (r4 : Int) (r5 : Int) (r6 : Int) (r7 : Bool) (r8 : Int) (r9 : Bool) (r10 : List (S60)) (r11 : List Int) (r12 : Int) (w : World) (hr0 : Kd.C (Kd.int .u8) w A0 l0.length l0) (hc0 : l0.length ≤ c0) (h : spec_DecodeSegment.f k l0 a1 a2 = some (r0, r1, r2, r3, r4, r5, r6, r7, r8, r9, r10, r11, r12)) (hG : spec_DecodeSegment.Good k l0 a1 a2) :
    Calls Try.prog 5 #[.slice A0 l0.length c0, .int .i64 a1, .int .i64 a2] w (spec_DecodeSegment.Post r0 r1 r2 r3 r4 r5 r6 r7 r8 r9 r10 r11 r12 w) := by
  have hu25 := Try.underlying25
  have hu60 := Try.underlying60
  have HR0 := Aside0.mk hr0
  have HC0 := Aside0.mk hc0
  clear hr0 hc0
  have H' := Aside0.mk h
  have HG := Aside0.mk hG
  clear h hG
  have B := Aside0.mk (Below.refl w.heap.size w)
  go_enter Try.func5, Try.ntmps5
  go_upto_region 1 with (first
    | ((with_reducible refine gate_dst (N := 6) rfl ?_); refine box_event ?hg (N := 6) ?hd (cs := #[.int .i64 0, .int .i64 0, .int .i64 0, .int .i64 0, .int .i64 0, .int .i64 0, .int .i64 0, .bool false, .int .i64 0, .bool false, .slice none 0 0, .slice none 0 0]) (t := 25) ?hr ?_; (case hd => rfl); (case hg => rfl); (case hr => first | (go_simp; done) | (go_simp; rfl)); intro g6 hg v1 hbox hb; have K6 := Aside0.mk (show v1.heap[g6]? = some (.cells #[.int .i64 0, .int .i64 0, .int .i64 0, .int .i64 0, .int .i64 0, .int .i64 0, .int .i64 0, .bool false, .int .i64 0, .bool false, .slice none 0 0, .slice none 0 0] 25 (0, 0)) from hbox); have G6 := Aside0.mk ((by rw [hg]; exact B.out.size) : w.heap.size ≤ g6); skip; replace B := Aside0.mk (below_step B.out hb); clear hb hbox hg))
  have H := H'.out
  clear H'
  unfold spec_DecodeSegment.f at H
  replace H := Option.bind_eq_some_iff.mp H
  obtain ⟨p, Ap, H⟩ := H
  have P1 := Aside0.mk Ap
  clear Ap
  cases p with
  | false =>
    exact absurd (P1.out.symm.trans HG.out.1) (by decide)
  | true =>
    rw [if_pos rfl] at H
    replace H := Option.bind_eq_some_iff.mp H
    obtain ⟨q, Aq, H⟩ := H
    have P2 := Aside0.mk Aq
    clear Aq
    cases q with
    | false =>
      exact absurd (P2.out.symm.trans HG.out.2.1) (by decide)
    | true =>
      rw [if_pos rfl] at H
      unfold spec_DecodeSegment.g at H
      by_cases c1 : (l0.length : Int) < 20
      · exact absurd c1 HG.out.2.2.1
      rw [if_neg c1] at H
      have c1b : decide ((l0.length : Int) < 20) = false := decide_eq_false c1
      have c1c : decide (l0.length < 20) = false := decide_eq_false (by omega)
      by_cases c2 : 65515 < (l0.length : Int)
      · exact absurd c2 HG.out.2.2.2.1
      rw [if_neg c2] at H
      have c2b : decide (65515 < (l0.length : Int)) = false := decide_eq_false c2
      have c2c : decide (65515 < l0.length) = false := decide_eq_false (by omega)
      have HL := Aside0.mk c1
      have HU := Aside0.mk c2
      clear c1 c2
      go_upto_region 7 with (first
          | ((with_reducible refine gate_callee (f := 23) rfl ?_); refine goesL_ (some 12) rfl rfl Try.func23 (by kernel_rfl) rfl #[.int .i64 a1] rfl wT ?_; (with_reducible refine (spec_l02AddrOK.calls a1 true _ P1.out).mono ?_); rintro e v4 ⟨rfl, dd⟩; refine ⟨_, rfl, ?_⟩; have hb := dd.below; replace B := Aside0.mk (below_step B.out hb); replace K6 := Aside0.mk (blk_below K6.out hb); clear hb dd; skip)
          | (go_at_call 23; (with_reducible refine (spec_l02AddrOK.calls a2 true _ P2.out).mono ?_); rintro e v5 ⟨rfl, dd⟩; have hb := dd.below; replace B := Aside0.mk (below_step B.out hb); replace K6 := Aside0.mk (blk_below K6.out hb); clear hb dd; obtain ⟨⟨hcza_0, hcza_1, hcza_2, hcza_3, hcza_4, hcza_5, hcza_6, hcza_7, hcza_8, hcza_9, hcza_10, hcza_11⟩, hfza_0, hfza_1, hfza_2, hfza_3, hfza_4, hfza_5, hfza_6, hfza_7, hfza_8, hfza_9, hfza_10, hfza_11⟩ := cells12 K6.out))
      clear hcza_0 hfza_0 hcza_1 hfza_1 hcza_2 hfza_2 hcza_3 hfza_3 hcza_4 hfza_4 hcza_5 hfza_5 hcza_6 hfza_6 hcza_7 hfza_7 hcza_8 hfza_8 hcza_9 hfza_9 hcza_10 hfza_10 hcza_11 hfza_11
      obtain ⟨n, hn⟩ : ∃ n_ : Int, n_ = wrap64 ((wrap64 ((rd l0 12) / 16)) * 4) := ⟨_, rfl⟩
      rw [← hn] at H
      have hnw : wrap64 ((wrap64 ((rd l0 12) / 16)) * 4) = n := hn.symm
      have hnw2 : IntKind.i64.wrap ((IntKind.i64.wrap ((rd l0 12) / 16)) * 4) = n := by simp only [i64_w]; exact hnw
      have hnw3 : IntKind.i64.wrap ((wrap64 ((rd l0 12) / 16)) * 4) = n := by simp only [i64_w]; exact hnw
      have HNN := Aside0.mk hn
      clear hn
      obtain ⟨ad, ead, hx12⟩ := Kd.at_int (Kd.C_below HR0.out B.out) 12 (by omega) (by have := HL.out; omega)
      subst ead
      simp only [show (12 : Int).toNat = 12 from rfl, Nat.reduceMul, Nat.reduceEqDiff, Go.Addr.add, ↓reduceIte] at hx12
      have q12 : (12 < l0.length) = True := eq_true (by have := HL.out; omega)
      have q12i : ((12 : Int) < (l0.length : Int)) = True := eq_true (by have := HL.out; omega)
      unfold spec_DecodeSegment.s at H
      by_cases c3 : n < 20
      · exact absurd c3 (by rw [HNN.out]; exact HG.out.2.2.2.2.1)
      rw [if_neg c3] at H
      have c3b : decide (n < 20) = false := decide_eq_false c3
      by_cases c4 : (l0.length : Int) < n
      · exact absurd c4 (by rw [HNN.out]; exact HG.out.2.2.2.2.2.1)
      rw [if_neg c4] at H
      have c4b : decide ((l0.length : Int) < n) = false := decide_eq_false c4
      have HN0 := Aside0.mk (show 20 ≤ n from by omega)
      have HN1 := Aside0.mk (show n ≤ (l0.length : Int) from by omega)
      clear c3 c4
      replace H := Option.bind_eq_some_iff.mp H
      obtain ⟨c, Ac, H⟩ := H
      have E2 := Aside0.mk Ac
      clear Ac
      go_upto_region 10 with (fail)
      clear hx12 q12 q12i hnw hnw2 hnw3
      by_cases c6 : c = 0
      rotate_left
      · exact absurd (Option.some.inj (E2.out.symm.trans HG.out.2.2.2.2.2.2)) c6
      rw [if_pos c6] at H
      have c6b : ((c) == 0) = true := beq_iff_eq.mpr c6
      have c6c : ((c) != 0) = false := bne_eq_false_iff_eq.mpr c6
      clear c6
      go_upto_region 12 with (first
          | ((with_reducible refine gate_callee (f := 24) rfl ?_); refine goesL_ (some 46) rfl rfl Try.func24 (by kernel_rfl) rfl #[.slice (some ad) l0.length c0, .int .i64 a1, .int .i64 a2, .int .i64 6] rfl wT ?_; (with_reducible refine (spec_l10Sum.calls k _ _ l0 a1 a2 6 c _ ?side1 ?side2 E2.out).mono ?_); (case side1 => exact Kd.C_below HR0.out B.out); (case side2 => exact HC0.out); rintro e v8 ⟨rfl, hb⟩; refine ⟨_, rfl, ?_⟩; replace B := Aside0.mk (below_step B.out hb); replace K6 := Aside0.mk (blk_below K6.out hb); clear hb; skip))
      unfold spec_DecodeSegment.t at H
      replace H := Option.bind_eq_some_iff.mp H
      obtain ⟨t0, Ax, H⟩ := H
      have Fg0 := Aside0.mk Ax
      clear Ax
      replace H := Option.bind_eq_some_iff.mp H
      obtain ⟨t1, Ax, H⟩ := H
      have Fg1 := Aside0.mk Ax
      clear Ax
      replace H := Option.bind_eq_some_iff.mp H
      obtain ⟨t2, Ax, H⟩ := H
      have Fg2 := Aside0.mk Ax
      clear Ax
      replace H := Option.bind_eq_some_iff.mp H
      obtain ⟨t3, Ax, H⟩ := H
      have Fg3 := Aside0.mk Ax
      clear Ax
      replace H := Option.bind_eq_some_iff.mp H
      obtain ⟨t5, Ax, H⟩ := H
      have Fg5 := Aside0.mk Ax
      clear Ax
      replace H := Option.bind_eq_some_iff.mp H
      obtain ⟨d, Ax, H⟩ := H
      have Fgd := Aside0.mk Ax
      clear Ax
      have HF := Aside0.mk H
      clear H
      obtain ⟨ig0, hig0, _, hszg0, _⟩ := info_parts info5
      have qcg0 : (2 : Int) ≤ (l0.length : Int) := (by have := HL.out; omega)
      have hcutg0 := cut_to (P := Try.prog) 22 5 .i64 Try.underlying22 hig0 (some ad) l0.length c0 2 (by omega) qcg0 HC0.out
      obtain ⟨yg0, hyg0⟩ : ∃ y_ : List Int, y_ = l0.take (2 : Int).toNat := ⟨_, rfl⟩
      have hlg0 : yg0.length = (2 : Int).toNat := by rw [hyg0, List.length_take]; omega
      rw [← hlg0] at hcutg0
      have HYg0 := Aside0.mk (show Kd.C (Kd.int .u8) w (some ad) yg0.length yg0 from by rw [hyg0]; exact Kd.C_take HR0.out (by omega))
      have HCg0 := Aside0.mk (show yg0.length ≤ c0 from by have := HC0.out; omega)
      have HEg0 := Aside0.mk hyg0
      clear hig0 hszg0 hyg0 hlg0
      replace qcg0 := eq_true qcg0
      replace Fg0 : Aside0 (spec_l03Num.f k yg0 = some t0) := ⟨by have h_ := Fg0.out; rw [show l0.take 2 = yg0 from HEg0.out.symm] at h_; exact h_⟩
      obtain ⟨ig1, hig1, _, hszg1, _⟩ := info_parts info5
      have qag1 : (0 : Int) ≤ (2 : Int) := (by omega)
      have qbg1 : (2 : Int) ≤ (4 : Int) := (by omega)
      have qcg1 : (4 : Int) ≤ (l0.length : Int) := (by have := HL.out; omega)
      have hcutg1 := cut_mid (P := Try.prog) 22 5 .i64 .i64 Try.underlying22 hig1 1 hszg1 (some ad) l0.length c0 2 4 qag1 qbg1 qcg1 HC0.out
      have hrg1 := Kd.C_mid (lo := (2 : Int).toNat) (hi := (4 : Int).toNat) (c := c0) HR0.out (by omega) (by omega) HC0.out
      obtain ⟨Ag1, hAg1⟩ : ∃ Aq_, Aq_ = (if c0 = (2 : Int).toNat then (some ad) else ((some ad) : Option Addr).map (·.add ((2 : Int).toNat * 1))) := ⟨_, rfl⟩
      obtain ⟨cg1, hcg1⟩ : ∃ cq_, cq_ = c0 - (2 : Int).toNat := ⟨_, rfl⟩
      obtain ⟨yg1, hyg1⟩ : ∃ y_ : List Int, y_ = (l0.take (4 : Int).toNat).drop (2 : Int).toNat := ⟨_, rfl⟩
      have hlg1 : yg1.length = (4 : Int).toNat - (2 : Int).toNat := by rw [hyg1, List.length_drop, List.length_take]; omega
      rw [← hyg1] at hrg1
      replace hrg1 : Kd.C (Kd.int .u8) w Ag1 yg1.length yg1 := by rw [hAg1]; exact hrg1
      rw [← hlg1, ← hAg1, ← hcg1] at hcutg1
      have HYg1 := Aside0.mk hrg1
      have HCg1 := Aside0.mk (show yg1.length ≤ cg1 from by have := HC0.out; rw [hlg1, hcg1]; omega)
      have HEg1 := Aside0.mk hyg1
      have HLg1 := Aside0.mk hlg1
      clear hrg1 hig1 hszg1 hcg1 hyg1 hlg1 hAg1
      replace qag1 := eq_true qag1
      replace qbg1 := eq_true qbg1
      replace qcg1 := eq_true qcg1
      replace Fg1 : Aside0 (spec_l03Num.f k yg1 = some t1) := ⟨by have h_ := Fg1.out; rw [show (l0.take 4).drop 2 = yg1 from HEg1.out.symm] at h_; exact h_⟩
      obtain ⟨ig2, hig2, _, hszg2, _⟩ := info_parts info5
      have qag2 : (0 : Int) ≤ (4 : Int) := (by omega)
      have qbg2 : (4 : Int) ≤ (8 : Int) := (by omega)
      have qcg2 : (8 : Int) ≤ (l0.length : Int) := (by have := HL.out; omega)
      have hcutg2 := cut_mid (P := Try.prog) 22 5 .i64 .i64 Try.underlying22 hig2 1 hszg2 (some ad) l0.length c0 4 8 qag2 qbg2 qcg2 HC0.out
      have hrg2 := Kd.C_mid (lo := (4 : Int).toNat) (hi := (8 : Int).toNat) (c := c0) HR0.out (by omega) (by omega) HC0.out
      obtain ⟨Ag2, hAg2⟩ : ∃ Aq_, Aq_ = (if c0 = (4 : Int).toNat then (some ad) else ((some ad) : Option Addr).map (·.add ((4 : Int).toNat * 1))) := ⟨_, rfl⟩
      obtain ⟨cg2, hcg2⟩ : ∃ cq_, cq_ = c0 - (4 : Int).toNat := ⟨_, rfl⟩
      obtain ⟨yg2, hyg2⟩ : ∃ y_ : List Int, y_ = (l0.take (8 : Int).toNat).drop (4 : Int).toNat := ⟨_, rfl⟩
      have hlg2 : yg2.length = (8 : Int).toNat - (4 : Int).toNat := by rw [hyg2, List.length_drop, List.length_take]; omega
      rw [← hyg2] at hrg2
      replace hrg2 : Kd.C (Kd.int .u8) w Ag2 yg2.length yg2 := by rw [hAg2]; exact hrg2
      rw [← hlg2, ← hAg2, ← hcg2] at hcutg2
      have HYg2 := Aside0.mk hrg2
      have HCg2 := Aside0.mk (show yg2.length ≤ cg2 from by have := HC0.out; rw [hlg2, hcg2]; omega)
      have HEg2 := Aside0.mk hyg2
      have HLg2 := Aside0.mk hlg2
      clear hrg2 hig2 hszg2 hcg2 hyg2 hlg2 hAg2
      replace qag2 := eq_true qag2
      replace qbg2 := eq_true qbg2
      replace qcg2 := eq_true qcg2
      replace Fg2 : Aside0 (spec_l03Num.f k yg2 = some t2) := ⟨by have h_ := Fg2.out; rw [show (l0.take 8).drop 4 = yg2 from HEg2.out.symm] at h_; exact h_⟩
      obtain ⟨ig3, hig3, _, hszg3, _⟩ := info_parts info5
      have qag3 : (0 : Int) ≤ (8 : Int) := (by omega)
      have qbg3 : (8 : Int) ≤ (12 : Int) := (by omega)
      have qcg3 : (12 : Int) ≤ (l0.length : Int) := (by have := HL.out; omega)
      have hcutg3 := cut_mid (P := Try.prog) 22 5 .i64 .i64 Try.underlying22 hig3 1 hszg3 (some ad) l0.length c0 8 12 qag3 qbg3 qcg3 HC0.out
      have hrg3 := Kd.C_mid (lo := (8 : Int).toNat) (hi := (12 : Int).toNat) (c := c0) HR0.out (by omega) (by omega) HC0.out
      obtain ⟨Ag3, hAg3⟩ : ∃ Aq_, Aq_ = (if c0 = (8 : Int).toNat then (some ad) else ((some ad) : Option Addr).map (·.add ((8 : Int).toNat * 1))) := ⟨_, rfl⟩
      obtain ⟨cg3, hcg3⟩ : ∃ cq_, cq_ = c0 - (8 : Int).toNat := ⟨_, rfl⟩
      obtain ⟨yg3, hyg3⟩ : ∃ y_ : List Int, y_ = (l0.take (12 : Int).toNat).drop (8 : Int).toNat := ⟨_, rfl⟩
      have hlg3 : yg3.length = (12 : Int).toNat - (8 : Int).toNat := by rw [hyg3, List.length_drop, List.length_take]; omega
      rw [← hyg3] at hrg3
      replace hrg3 : Kd.C (Kd.int .u8) w Ag3 yg3.length yg3 := by rw [hAg3]; exact hrg3
      rw [← hlg3, ← hAg3, ← hcg3] at hcutg3
      have HYg3 := Aside0.mk hrg3
      have HCg3 := Aside0.mk (show yg3.length ≤ cg3 from by have := HC0.out; rw [hlg3, hcg3]; omega)
      have HEg3 := Aside0.mk hyg3
      have HLg3 := Aside0.mk hlg3
      clear hrg3 hig3 hszg3 hcg3 hyg3 hlg3 hAg3
      replace qag3 := eq_true qag3
      replace qbg3 := eq_true qbg3
      replace qcg3 := eq_true qcg3
      replace Fg3 : Aside0 (spec_l03Num.f k yg3 = some t3) := ⟨by have h_ := Fg3.out; rw [show (l0.take 12).drop 8 = yg3 from HEg3.out.symm] at h_; exact h_⟩
      obtain ⟨ig5, hig5, _, hszg5, _⟩ := info_parts info5
      have qag5 : (0 : Int) ≤ (14 : Int) := (by omega)
      have qbg5 : (14 : Int) ≤ (16 : Int) := (by omega)
      have qcg5 : (16 : Int) ≤ (l0.length : Int) := (by have := HL.out; omega)
      have hcutg5 := cut_mid (P := Try.prog) 22 5 .i64 .i64 Try.underlying22 hig5 1 hszg5 (some ad) l0.length c0 14 16 qag5 qbg5 qcg5 HC0.out
      have hrg5 := Kd.C_mid (lo := (14 : Int).toNat) (hi := (16 : Int).toNat) (c := c0) HR0.out (by omega) (by omega) HC0.out
      obtain ⟨Ag5, hAg5⟩ : ∃ Aq_, Aq_ = (if c0 = (14 : Int).toNat then (some ad) else ((some ad) : Option Addr).map (·.add ((14 : Int).toNat * 1))) := ⟨_, rfl⟩
      obtain ⟨cg5, hcg5⟩ : ∃ cq_, cq_ = c0 - (14 : Int).toNat := ⟨_, rfl⟩
      obtain ⟨yg5, hyg5⟩ : ∃ y_ : List Int, y_ = (l0.take (16 : Int).toNat).drop (14 : Int).toNat := ⟨_, rfl⟩
      have hlg5 : yg5.length = (16 : Int).toNat - (14 : Int).toNat := by rw [hyg5, List.length_drop, List.length_take]; omega
      rw [← hyg5] at hrg5
      replace hrg5 : Kd.C (Kd.int .u8) w Ag5 yg5.length yg5 := by rw [hAg5]; exact hrg5
      rw [← hlg5, ← hAg5, ← hcg5] at hcutg5
      have HYg5 := Aside0.mk hrg5
      have HCg5 := Aside0.mk (show yg5.length ≤ cg5 from by have := HC0.out; rw [hlg5, hcg5]; omega)
      have HEg5 := Aside0.mk hyg5
      have HLg5 := Aside0.mk hlg5
      clear hrg5 hig5 hszg5 hcg5 hyg5 hlg5 hAg5
      replace qag5 := eq_true qag5
      replace qbg5 := eq_true qbg5
      replace qcg5 := eq_true qcg5
      replace Fg5 : Aside0 (spec_l03Num.f k yg5 = some t5) := ⟨by have h_ := Fg5.out; rw [show (l0.take 16).drop 14 = yg5 from HEg5.out.symm] at h_; exact h_⟩
      obtain ⟨igd, higd, _, hszgd, _⟩ := info_parts info5
      have qagd : (0 : Int) ≤ (n : Int) := (by have := HN0.out; omega)
      have qbgd : (n : Int) ≤ (l0.length : Int) := HN1.out
      have hcutgd := cut_from (P := Try.prog) 22 5 .i64 Try.underlying22 higd 1 hszgd (some ad) l0.length c0 n qagd qbgd
      have hrgd := Kd.C_drop (m := (n : Int).toNat) (c := c0) HR0.out (by omega) HC0.out
      obtain ⟨Agd, hAgd⟩ : ∃ Aq_, Aq_ = (if c0 = (n : Int).toNat then (some ad) else ((some ad) : Option Addr).map (·.add ((n : Int).toNat * 1))) := ⟨_, rfl⟩
      obtain ⟨cgd, hcgd⟩ : ∃ cq_, cq_ = c0 - (n : Int).toNat := ⟨_, rfl⟩
      obtain ⟨ygd, hygd⟩ : ∃ y_ : List Int, y_ = l0.drop (n : Int).toNat := ⟨_, rfl⟩
      have hlgd : ygd.length = l0.length - (n : Int).toNat := by rw [hygd, List.length_drop]
      rw [← hygd] at hrgd
      replace hrgd : Kd.C (Kd.int .u8) w Agd ygd.length ygd := by rw [hAgd]; exact hrgd
      rw [← hlgd, ← hAgd, ← hcgd] at hcutgd
      have HYgd := Aside0.mk hrgd
      have HCgd := Aside0.mk (show ygd.length ≤ cgd from by have := HC0.out; rw [hlgd, hcgd]; omega)
      have HEgd := Aside0.mk hygd
      clear hrgd higd hszgd hcgd hygd hlgd hAgd
      replace qagd := eq_true qagd
      replace qbgd := eq_true qbgd
      replace Fgd : Aside0 (spec_l01Copy.f k ygd = some d) := ⟨by have h_ := Fgd.out; rw [show l0.drop n.toNat = ygd from HEgd.out.symm] at h_; exact h_⟩
      obtain ⟨ad2, ead, hx13⟩ := Kd.at_int (Kd.C_below HR0.out B.out) 13 (by omega) (by have := HL.out; omega)
      obtain rfl : ad = ad2 := (by injection ead)
      simp only [show (13 : Int).toNat = 13 from rfl, Nat.reduceMul, Nat.reduceEqDiff, Go.Addr.add, ↓reduceIte] at hx13
      clear ead
      have q13 : (13 < l0.length) = True := eq_true (by have := HL.out; omega)
      have q13i : ((13 : Int) < (l0.length : Int)) = True := eq_true (by have := HL.out; omega)
      obtain ⟨fl, hfl⟩ : ∃ f_ : Int, f_ = wrap64 (Go.bits .and .u8 (rd l0 13) 63) := ⟨_, rfl⟩
      rw [← hfl] at HF
      have HFL := Aside0.mk hfl
      clear hfl
      go_cut [9] (fun v9 wc => ∃ (g9 : Nat) (Ad : Option Addr) (cd : Nat), v9 = .pointer (some ⟨g9, 0, none⟩) ∧ Aside0 (Kd.R (Kd.int .u8) 5 wc w.heap.size (fun k_ => w.heap.size ≤ k_) (.slice Ad d.length cd) d) ∧ Aside0 (wc.heap[g6]? = some (.cells #[.int .i64 0, .int .i64 0, .int .i64 0, .int .i64 0, .int .i64 0, .int .i64 0, .int .i64 0, .bool false, .int .i64 0, .bool false, .slice none 0 0, .slice none 0 0] 25 (0, 0))) ∧ Aside0 (wc.heap[g9]? = some (.cells #[.int .i64 t0, .int .i64 t1, .int .i64 t2, .int .i64 t3, .int .i64 fl, .int .i64 t5, .int .i64 0, .bool false, .int .i64 0, .bool false, .slice none 0 0, .slice Ad d.length cd] 25 (0, 0))) ∧ Aside0 (w.heap.size ≤ g9) ∧ Aside0 (g6 ≠ g9) ∧ Aside0 (Below w.heap.size w wc))
      case first =>
        clear HF
        refine start_ (n := 27) (S := fun w' => w'.cell? ⟨ad.block, ad.off + 13, none⟩ = some (.int .u8 (rd l0 13))) (ds := [26]) #[false, false, false, false, false, false, false, false, false, false, false, false, false, false, false, false, false, false, false, false, false, false, false, false, false, false, false] (by kernel_rfl) rfl rfl hx13 (fun hHeld => ?_)
        refine with_tabW spec_DecodeSegment.tab12 spec_DecodeSegment.bits12 (fun HT_ HW_ => ?_)
        replace B := Aside0.mk (below_drew1 B.out)
        replace K6 := Aside0.mk (blk_drew K6.out)
        generalize v8.drew = u0 at B K6 hHeld ⊢
        clear hx13
        refine pure_ (i := 0) (N := some 49) (v := ?_) (a' := ?_) #[true, false, false, false, false, false, false, false, false, false, false, false, false, false, false, false, false, false, false, false, false, false, false, false, false, false, false] rfl rfl (any_of HT_.out (by kernel_rfl)) (fun _ _ _ h => h) (Or.inl ⟨by rfl, ?_⟩) ?_ ?_
        rotate_left
        {
          intro w'
          go_simp
          with_reducible rfl
        }
        rotate_left
        {
          simp only [Act.put, List.setIfInBounds_toArray, List.set_cons_zero, List.set_cons_succ, i64_w, i32_w]
          rfl
        }
        refine pure_ (i := 1) (N := some 50) (v := ?_) (a' := ?_) #[true, true, false, false, false, false, false, false, false, false, false, false, false, false, false, false, false, false, false, false, false, false, false, false, false, false, false] rfl rfl (any_of HT_.out (by kernel_rfl)) (fun _ _ _ h => h) (Or.inl ⟨by rfl, ?_⟩) ?_ ?_
        rotate_left
        {
          intro w'
          go_simp
          with_reducible rfl
        }
        rotate_left
        {
          simp only [Act.put, List.setIfInBounds_toArray, List.set_cons_zero, List.set_cons_succ, i64_w, i32_w]
          rfl
        }
        refine pure_ (i := 3) (N := some 52) (v := ?_) (a' := ?_) #[true, true, false, true, false, false, false, false, false, false, false, false, false, false, false, false, false, false, false, false, false, false, false, false, false, false, false] rfl rfl (any_of HT_.out (by kernel_rfl)) (fun _ _ _ h => h) (Or.inl ⟨by rfl, ?_⟩) ?_ ?_
        rotate_left
        {
          intro w'
          go_simp
          with_reducible rfl
        }
        rotate_left
        {
          simp only [Act.put, List.setIfInBounds_toArray, List.set_cons_zero, List.set_cons_succ, i64_w, i32_w]
          rfl
        }
        refine pure_ (i := 4) (N := some 53) (v := ?_) (a' := ?_) #[true, true, false, true, true, false, false, false, false, false, false, false, false, false, false, false, false, false, false, false, false, false, false, false, false, false, false] rfl rfl (any_of HT_.out (by kernel_rfl)) (fun _ _ _ h => h) (Or.inl ⟨by rfl, ?_⟩) ?_ ?_
        rotate_left
        {
          intro w'
          go_simp
          with_reducible rfl
        }
        rotate_left
        {
          simp only [Act.put, List.setIfInBounds_toArray, List.set_cons_zero, List.set_cons_succ, i64_w, i32_w]
          rfl
        }
        refine pure_ (i := 6) (N := some 55) (v := ?_) (a' := ?_) #[true, true, false, true, true, false, true, false, false, false, false, false, false, false, false, false, false, false, false, false, false, false, false, false, false, false, false] rfl rfl (any_of HT_.out (by kernel_rfl)) (fun _ _ _ h => h) (Or.inl ⟨by rfl, ?_⟩) ?_ ?_
        rotate_left
        {
          intro w'
          go_simp
          with_reducible rfl
        }
        rotate_left
        {
          simp only [Act.put, List.setIfInBounds_toArray, List.set_cons_zero, List.set_cons_succ, i64_w, i32_w]
          rfl
        }
        refine pure_ (i := 7) (N := some 56) (v := ?_) (a' := ?_) #[true, true, false, true, true, false, true, true, false, false, false, false, false, false, false, false, false, false, false, false, false, false, false, false, false, false, false] rfl rfl (any_of HT_.out (by kernel_rfl)) (fun _ _ _ h => h) (Or.inl ⟨by rfl, ?_⟩) ?_ ?_
        rotate_left
        {
          intro w'
          go_simp
          with_reducible rfl
        }
        rotate_left
        {
          simp only [Act.put, List.setIfInBounds_toArray, List.set_cons_zero, List.set_cons_succ, i64_w, i32_w]
          rfl
        }
        refine pure_ (i := 9) (N := some 58) (v := ?_) (a' := ?_) #[true, true, false, true, true, false, true, true, false, true, false, false, false, false, false, false, false, false, false, false, false, false, false, false, false, false, false] rfl rfl (any_of HT_.out (by kernel_rfl)) (fun _ _ _ h => h) (Or.inl ⟨by rfl, ?_⟩) ?_ ?_
        rotate_left
        {
          intro w'
          go_simp
          with_reducible rfl
        }
        rotate_left
        {
          simp only [Act.put, List.setIfInBounds_toArray, List.set_cons_zero, List.set_cons_succ, i64_w, i32_w]
          rfl
        }
        refine pure_ (i := 10) (N := some 59) (v := ?_) (a' := ?_) #[true, true, false, true, true, false, true, true, false, true, true, false, false, false, false, false, false, false, false, false, false, false, false, false, false, false, false] rfl rfl (any_of HT_.out (by kernel_rfl)) (fun _ _ _ h => h) (Or.inl ⟨by rfl, ?_⟩) ?_ ?_
        rotate_left
        {
          intro w'
          go_simp
          with_reducible rfl
        }
        rotate_left
        {
          simp only [Act.put, List.setIfInBounds_toArray, List.set_cons_zero, List.set_cons_succ, i64_w, i32_w]
          rfl
        }
        refine pure_ (i := 12) (N := some 61) (v := ?_) (a' := ?_) #[true, true, false, true, true, false, true, true, false, true, true, false, true, false, false, false, false, false, false, false, false, false, false, false, false, false, false] rfl rfl (any_of HT_.out (by kernel_rfl)) (fun _ _ _ h => h) (Or.inl ⟨by rfl, ?_⟩) ?_ ?_
        rotate_left
        {
          intro w'
          go_simp
          with_reducible rfl
        }
        rotate_left
        {
          simp only [Act.put, List.setIfInBounds_toArray, List.set_cons_zero, List.set_cons_succ, i64_w, i32_w]
          rfl
        }
        refine pure_ (i := 13) (N := some 62) (v := ?_) (a' := ?_) #[true, true, false, true, true, false, true, true, false, true, true, false, true, true, false, false, false, false, false, false, false, false, false, false, false, false, false] rfl rfl (any_of HT_.out (by kernel_rfl)) (fun _ _ _ h => h) (Or.inl ⟨by rfl, ?_⟩) ?_ ?_
        rotate_left
        {
          intro w'
          go_simp
          with_reducible rfl
        }
        rotate_left
        {
          simp only [Act.put, List.setIfInBounds_toArray, List.set_cons_zero, List.set_cons_succ, i64_w, i32_w]
          rfl
        }
        refine pure_ (i := 17) (N := some 66) (v := ?_) (a' := ?_) #[true, true, false, true, true, false, true, true, false, true, true, false, true, true, false, false, false, true, false, false, false, false, false, false, false, false, false] rfl rfl (any_of HT_.out (by kernel_rfl)) (fun _ _ _ h => h) (Or.inl ⟨by rfl, ?_⟩) ?_ ?_
        rotate_left
        {
          intro w'
          go_simp
          with_reducible rfl
        }
        rotate_left
        {
          simp only [Act.put, List.setIfInBounds_toArray, List.set_cons_zero, List.set_cons_succ, i64_w, i32_w]
          rfl
        }
        refine pure_ (i := 18) (N := some 67) (v := ?_) (a' := ?_) #[true, true, false, true, true, false, true, true, false, true, true, false, true, true, false, false, false, true, true, false, false, false, false, false, false, false, false] rfl rfl (any_of HT_.out (by kernel_rfl)) (fun _ _ _ h => h) (Or.inl ⟨by rfl, ?_⟩) ?_ ?_
        rotate_left
        {
          intro w'
          go_simp
          with_reducible rfl
        }
        rotate_left
        {
          simp only [Act.put, List.setIfInBounds_toArray, List.set_cons_zero, List.set_cons_succ, i64_w, i32_w]
          rfl
        }
        refine pure_ (i := 20) (N := some 69) (v := ?_) (a' := ?_) #[true, true, false, true, true, false, true, true, false, true, true, false, true, true, false, false, false, true, true, false, true, false, false, false, false, false, false] rfl rfl (any_of HT_.out (by kernel_rfl)) (fun _ _ _ h => h) (Or.inl ⟨by rfl, ?_⟩) ?_ ?_
        rotate_left
        {
          intro w'
          go_simp
          with_reducible rfl
        }
        rotate_left
        {
          simp only [Act.put, List.setIfInBounds_toArray, List.set_cons_zero, List.set_cons_succ, i64_w, i32_w]
          rfl
        }
        refine pure_ (i := 21) (N := some 70) (v := ?_) (a' := ?_) #[true, true, false, true, true, false, true, true, false, true, true, false, true, true, false, false, false, true, true, false, true, true, false, false, false, false, false] rfl rfl (any_of HT_.out (by kernel_rfl)) (fun _ _ _ h => h) (Or.inl ⟨by rfl, ?_⟩) ?_ ?_
        rotate_left
        {
          intro w'
          go_simp
          with_reducible rfl
        }
        rotate_left
        {
          simp only [Act.put, List.setIfInBounds_toArray, List.set_cons_zero, List.set_cons_succ, i64_w, i32_w]
          rfl
        }
        refine pure_ (i := 22) (N := some 71) (v := ?_) (a' := ?_) #[true, true, false, true, true, false, true, true, false, true, true, false, true, true, false, false, false, true, true, false, true, true, true, false, false, false, false] rfl rfl (any_of HT_.out (by kernel_rfl)) (fun _ _ _ h => h) (Or.inl ⟨by rfl, ?_⟩) ?_ ?_
        rotate_left
        {
          intro w'
          go_simp
          with_reducible rfl
        }
        rotate_left
        {
          simp only [Act.put, List.setIfInBounds_toArray, List.set_cons_zero, List.set_cons_succ, i64_w, i32_w]
          rfl
        }
        refine take_ (i := 14) (N := some 63) (v := ?_) (a' := ?_) #[true, true, false, true, true, false, true, true, false, true, true, false, true, true, true, false, false, true, true, false, true, true, true, false, false, false, false] rfl rfl (take_ofW HT_.out HW_.out (by kernel_rfl)) (fun _ _ _ h => h) (Or.inl ⟨by rfl, ?_⟩) hHeld ?_ ?_
        rotate_left
        {
          intro w' s0
          go_simp
          with_reducible rfl
        }
        rotate_left
        {
          simp only [Act.put, List.setIfInBounds_toArray, List.set_cons_zero, List.set_cons_succ, i64_w, i32_w]
          rfl
        }
        refine pure_ (i := 15) (N := some 64) (v := ?_) (a' := ?_) #[true, true, false, true, true, false, true, true, false, true, true, false, true, true, true, true, false, true, true, false, true, true, true, false, false, false, false] rfl rfl (any_of HT_.out (by kernel_rfl)) (fun _ _ _ h => h) (Or.inl ⟨by rfl, ?_⟩) ?_ ?_
        rotate_left
        {
          intro w'
          go_simp
          with_reducible rfl
        }
        rotate_left
        {
          simp only [Act.put, List.setIfInBounds_toArray, List.set_cons_zero, List.set_cons_succ, i64_w, i32_w]
          rfl
        }
        refine pure_ (i := 16) (N := some 65) (v := ?_) (a' := ?_) #[true, true, false, true, true, false, true, true, false, true, true, false, true, true, true, true, true, true, true, false, true, true, true, false, false, false, false] rfl rfl (any_of HT_.out (by kernel_rfl)) (fun _ _ _ h => h) (Or.inl ⟨by rfl, ?_⟩) ?_ ?_
        rotate_left
        {
          intro w'
          go_simp
          with_reducible rfl
        }
        rotate_left
        {
          simp only [Act.put, List.setIfInBounds_toArray, List.set_cons_zero, List.set_cons_succ, i64_w, i32_w]
          rfl
        }
        refine two_ (i := 2) (j := 25) (Ni := some 51) (Nj := some 9) #[true, true, true, true, true, false, true, true, false, true, true, false, true, true, true, true, true, true, true, false, true, true, true, false, false, false, false] #[true, true, false, true, true, false, true, true, false, true, true, false, true, true, true, true, true, true, true, false, true, true, true, false, false, true, false] rfl rfl rfl rfl (two_of HT_.out (by kernel_rfl)) (by decide) (by decide) (fun K hK => ?_) (fun K hK => ?_)
        focus
          refine goes_ Try.func25 (by kernel_rfl) rfl #[.slice (some ad) yg0.length c0] (by rfl) rfl rfl wT ?_
          with_reducible refine (spec_l03Num.calls k _ _ yg0 t0 _ ?side1 ?side2 Fg0.out).mono ?_
          (case side1 => exact Kd.C_below HYg0.out B.out)
          (case side2 => exact HCg0.out)
          rintro e u1 ⟨rfl, dd⟩
          have hb := dd.below
          refine ⟨_, rfl, ?_⟩
          have hh := pw_cell_below hb hHeld
          replace B := Aside0.mk (below_step B.out hb)
          replace K6 := Aside0.mk (blk_below K6.out hb)
          clear hb dd hHeld
          refine hK.out _ _ hh (fun hHeld => ?_)
          clear hK K hh
          refine norm_ (a' := ?_) ?_ ?_
          rotate_left
          {
            show Act.put _ (some 51) _ = _
            simp only [Act.put, List.setIfInBounds_toArray, List.set_cons_zero, List.set_cons_succ, i64_w, i32_w]
            rfl
          }
        refine two_ (i := 5) (j := 25) (Ni := some 54) (Nj := some 9) #[true, true, true, true, true, true, true, true, false, true, true, false, true, true, true, true, true, true, true, false, true, true, true, false, false, false, false] #[true, true, true, true, true, false, true, true, false, true, true, false, true, true, true, true, true, true, true, false, true, true, true, false, false, true, false] rfl rfl rfl rfl (two_of HT_.out (by kernel_rfl)) (by decide) (by decide) (fun K hK => ?_) (fun K hK => ?_)
        focus
          refine goes_ Try.func25 (by kernel_rfl) rfl #[.slice Ag1 yg1.length cg1] (by rfl) rfl rfl wT ?_
          with_reducible refine (spec_l03Num.calls k _ _ yg1 t1 _ ?side1 ?side2 Fg1.out).mono ?_
          (case side1 => exact Kd.C_below HYg1.out B.out)
          (case side2 => exact HCg1.out)
          rintro e u2 ⟨rfl, dd⟩
          have hb := dd.below
          refine ⟨_, rfl, ?_⟩
          have hh := pw_cell_below hb hHeld
          replace B := Aside0.mk (below_step B.out hb)
          replace K6 := Aside0.mk (blk_below K6.out hb)
          clear hb dd hHeld
          refine hK.out _ _ hh (fun hHeld => ?_)
          clear hK K hh
          refine norm_ (a' := ?_) ?_ ?_
          rotate_left
          {
            show Act.put _ (some 54) _ = _
            simp only [Act.put, List.setIfInBounds_toArray, List.set_cons_zero, List.set_cons_succ, i64_w, i32_w]
            rfl
          }
        refine two_ (i := 8) (j := 25) (Ni := some 57) (Nj := some 9) #[true, true, true, true, true, true, true, true, true, true, true, false, true, true, true, true, true, true, true, false, true, true, true, false, false, false, false] #[true, true, true, true, true, true, true, true, false, true, true, false, true, true, true, true, true, true, true, false, true, true, true, false, false, true, false] rfl rfl rfl rfl (two_of HT_.out (by kernel_rfl)) (by decide) (by decide) (fun K hK => ?_) (fun K hK => ?_)
        focus
          refine goes_ Try.func25 (by kernel_rfl) rfl #[.slice Ag2 yg2.length cg2] (by rfl) rfl rfl wT ?_
          with_reducible refine (spec_l03Num.calls k _ _ yg2 t2 _ ?side1 ?side2 Fg2.out).mono ?_
          (case side1 => exact Kd.C_below HYg2.out B.out)
          (case side2 => exact HCg2.out)
          rintro e u3 ⟨rfl, dd⟩
          have hb := dd.below
          refine ⟨_, rfl, ?_⟩
          have hh := pw_cell_below hb hHeld
          replace B := Aside0.mk (below_step B.out hb)
          replace K6 := Aside0.mk (blk_below K6.out hb)
          clear hb dd hHeld
          refine hK.out _ _ hh (fun hHeld => ?_)
          clear hK K hh
          refine norm_ (a' := ?_) ?_ ?_
          rotate_left
          {
            show Act.put _ (some 57) _ = _
            simp only [Act.put, List.setIfInBounds_toArray, List.set_cons_zero, List.set_cons_succ, i64_w, i32_w]
            rfl
          }
        refine two_ (i := 11) (j := 25) (Ni := some 60) (Nj := some 9) #[true, true, true, true, true, true, true, true, true, true, true, true, true, true, true, true, true, true, true, false, true, true, true, false, false, false, false] #[true, true, true, true, true, true, true, true, true, true, true, false, true, true, true, true, true, true, true, false, true, true, true, false, false, true, false] rfl rfl rfl rfl (two_of HT_.out (by kernel_rfl)) (by decide) (by decide) (fun K hK => ?_) (fun K hK => ?_)
        focus
          refine goes_ Try.func25 (by kernel_rfl) rfl #[.slice Ag3 yg3.length cg3] (by rfl) rfl rfl wT ?_
          with_reducible refine (spec_l03Num.calls k _ _ yg3 t3 _ ?side1 ?side2 Fg3.out).mono ?_
          (case side1 => exact Kd.C_below HYg3.out B.out)
          (case side2 => exact HCg3.out)
          rintro e u4 ⟨rfl, dd⟩
          have hb := dd.below
          refine ⟨_, rfl, ?_⟩
          have hh := pw_cell_below hb hHeld
          replace B := Aside0.mk (below_step B.out hb)
          replace K6 := Aside0.mk (blk_below K6.out hb)
          clear hb dd hHeld
          refine hK.out _ _ hh (fun hHeld => ?_)
          clear hK K hh
          refine norm_ (a' := ?_) ?_ ?_
          rotate_left
          {
            show Act.put _ (some 60) _ = _
            simp only [Act.put, List.setIfInBounds_toArray, List.set_cons_zero, List.set_cons_succ, i64_w, i32_w]
            rfl
          }
        refine two_ (i := 19) (j := 25) (Ni := some 68) (Nj := some 9) #[true, true, true, true, true, true, true, true, true, true, true, true, true, true, true, true, true, true, true, true, true, true, true, false, false, false, false] #[true, true, true, true, true, true, true, true, true, true, true, true, true, true, true, true, true, true, true, false, true, true, true, false, false, true, false] rfl rfl rfl rfl (two_of HT_.out (by kernel_rfl)) (by decide) (by decide) (fun K hK => ?_) (fun K hK => ?_)
        focus
          refine goes_ Try.func25 (by kernel_rfl) rfl #[.slice Ag5 yg5.length cg5] (by rfl) rfl rfl wT ?_
          with_reducible refine (spec_l03Num.calls k _ _ yg5 t5 _ ?side1 ?side2 Fg5.out).mono ?_
          (case side1 => exact Kd.C_below HYg5.out B.out)
          (case side2 => exact HCg5.out)
          rintro e u5 ⟨rfl, dd⟩
          have hb := dd.below
          refine ⟨_, rfl, ?_⟩
          have hh := pw_cell_below hb hHeld
          replace B := Aside0.mk (below_step B.out hb)
          replace K6 := Aside0.mk (blk_below K6.out hb)
          clear hb dd hHeld
          refine hK.out _ _ hh (fun hHeld => ?_)
          clear hK K hh
          refine norm_ (a' := ?_) ?_ ?_
          rotate_left
          {
            show Act.put _ (some 68) _ = _
            simp only [Act.put, List.setIfInBounds_toArray, List.set_cons_zero, List.set_cons_succ, i64_w, i32_w]
            rfl
          }
        refine two_ (i := 23) (j := 25) (Ni := some 72) (Nj := some 9) #[true, true, true, true, true, true, true, true, true, true, true, true, true, true, true, true, true, true, true, true, true, true, true, true, false, false, false] #[true, true, true, true, true, true, true, true, true, true, true, true, true, true, true, true, true, true, true, true, true, true, true, false, false, true, false] rfl rfl rfl rfl (two_of HT_.out (by kernel_rfl)) (by decide) (by decide) (fun K hK => ?_) (fun K hK => ?_)
        focus
          refine goes_ Try.func26 (by kernel_rfl) rfl #[.slice Agd ygd.length cgd] (by rfl) rfl rfl wT ?_
          with_reducible refine (spec_l01Copy.calls k _ _ ygd d _ ?side1 ?side2 Fgd.out).mono ?_
          (case side1 => exact Kd.C_below HYgd.out B.out)
          (case side2 => exact HCgd.out)
          rintro e u6 ⟨vd, rfl, ho, hb⟩
          refine ⟨_, rfl, ?_⟩
          have hh := pw_cell_below hb hHeld
          have D : Aside0 (Kd.R (Kd.int .u8) 5 u6 w.heap.size (fun k_ => w.heap.size ≤ k_) vd d) := ⟨Kd.R_mono (Kd.R_lower (Kd.R_newM (M := fun k_ => w.heap.size ≤ k_) ho B.out.size (fun _ h_ => h_)) B.out.size) (fun _ h_ => h_.1)⟩
          replace B := Aside0.mk (below_step B.out hb)
          replace K6 := Aside0.mk (blk_below K6.out hb)
          clear hb hHeld ho
          obtain ⟨Ad, cd, ed⟩ := Kd.R_slice D.out
          subst ed
          refine hK.out _ _ hh (fun hHeld => ?_)
          clear hK K hh
          refine norm_ (a' := ?_) ?_ ?_
          rotate_left
          {
            show Act.put _ (some 72) _ = _
            simp only [Act.put, List.setIfInBounds_toArray, List.set_cons_zero, List.set_cons_succ, i64_w, i32_w]
            rfl
          }
        focus
          refine pure_ (i := 24) (N := some 73) (v := ?_) (a' := ?_) #[true, true, true, true, true, true, true, true, true, true, true, true, true, true, true, true, true, true, true, true, true, true, true, true, true, false, false] rfl rfl (any_of HT_.out (by kernel_rfl)) (fun _ _ _ h => h) (Or.inl ⟨by rfl, ?_⟩) ?_ ?_
          rotate_left
          {
            intro w'
            go_simp
            with_reducible rfl
          }
          rotate_left
          {
            simp only [Act.put, List.setIfInBounds_toArray, List.set_cons_zero, List.set_cons_succ, i64_w, i32_w]
            rfl
          }
          refine one_ (i := 25) (N := some 9) #[true, true, true, true, true, true, true, true, true, true, true, true, true, true, true, true, true, true, true, true, true, true, true, true, true, true, false] rfl rfl (one_of HT_.out (by kernel_rfl)) (by decide) (fun K hK => ?_)
          refine box_step ?hg (N := 9) ?hd (cs := #[.int .i64 0, .int .i64 0, .int .i64 0, .int .i64 0, .int .i64 0, .int .i64 0, .int .i64 0, .bool false, .int .i64 0, .bool false, .slice none 0 0, .slice none 0 0]) (t := 25) ?hr ?_; (case hd => rfl); (case hg => rfl); (case hr => first | (go_simp; done) | (go_simp; rfl))
          intro g9 hg u7 hbox hb
          have hh := pw_cell_below hb hHeld
          have K9 := Aside0.mk (show u7.heap[g9]? = some (.cells #[.int .i64 0, .int .i64 0, .int .i64 0, .int .i64 0, .int .i64 0, .int .i64 0, .int .i64 0, .bool false, .int .i64 0, .bool false, .slice none 0 0, .slice none 0 0] 25 (0, 0)) from hbox)
          have G9 := Aside0.mk ((by rw [hg]; exact B.out.size) : w.heap.size ≤ g9)
          have N69 := Aside0.mk ((by rw [hg]; exact Nat.ne_of_lt (blk_lt K6.out)) : g6 ≠ g9)
          replace B := Aside0.mk (below_step B.out hb)
          replace K6 := Aside0.mk (blk_below K6.out hb)
          replace D := Aside0.mk (Kd.R_below D.out hb)
          clear hb hbox hg hHeld
          refine hK.out _ _ hh (fun hHeld => ?_)
          clear hK K hh
          refine norm_ (a' := ?_) ?_ ?_
          rotate_left
          {
            show Act.put _ (some 9) _ = _
            simp only [Act.put, List.setIfInBounds_toArray, List.set_cons_zero, List.set_cons_succ, i64_w, i32_w]
            rfl
          }
        rotate_left
        focus
          refine box_step ?hg (N := 9) ?hd (cs := #[.int .i64 0, .int .i64 0, .int .i64 0, .int .i64 0, .int .i64 0, .int .i64 0, .int .i64 0, .bool false, .int .i64 0, .bool false, .slice none 0 0, .slice none 0 0]) (t := 25) ?hr ?_; (case hd => rfl); (case hg => rfl); (case hr => first | (go_simp; done) | (go_simp; rfl))
          intro g9 hg u6 hbox hb
          have hh := pw_cell_below hb hHeld
          have K9 := Aside0.mk (show u6.heap[g9]? = some (.cells #[.int .i64 0, .int .i64 0, .int .i64 0, .int .i64 0, .int .i64 0, .int .i64 0, .int .i64 0, .bool false, .int .i64 0, .bool false, .slice none 0 0, .slice none 0 0] 25 (0, 0)) from hbox)
          have G9 := Aside0.mk ((by rw [hg]; exact B.out.size) : w.heap.size ≤ g9)
          have N69 := Aside0.mk ((by rw [hg]; exact Nat.ne_of_lt (blk_lt K6.out)) : g6 ≠ g9)
          replace B := Aside0.mk (below_step B.out hb)
          replace K6 := Aside0.mk (blk_below K6.out hb)
          clear hb hbox hg hHeld
          refine hK.out _ _ hh (fun hHeld => ?_)
          clear hK K hh
          refine norm_ (a' := ?_) ?_ ?_
          rotate_left
          {
            show Act.put _ (some 9) _ = _
            simp only [Act.put, List.setIfInBounds_toArray, List.set_cons_zero, List.set_cons_succ, i64_w, i32_w]
            rfl
          }
        focus
          refine one_ (i := 23) (N := some 72) #[true, true, true, true, true, true, true, true, true, true, true, true, true, true, true, true, true, true, true, true, true, true, true, true, false, true, false] rfl rfl (one_of HT_.out (by kernel_rfl)) (by decide) (fun K hK => ?_)
          refine goes_ Try.func26 (by kernel_rfl) rfl #[.slice Agd ygd.length cgd] (by rfl) rfl rfl wT ?_
          with_reducible refine (spec_l01Copy.calls k _ _ ygd d _ ?side1 ?side2 Fgd.out).mono ?_
          (case side1 => exact Kd.C_below HYgd.out B.out)
          (case side2 => exact HCgd.out)
          rintro e u7 ⟨vd, rfl, ho, hb⟩
          refine ⟨_, rfl, ?_⟩
          have hh := pw_cell_below hb hHeld
          have D : Aside0 (Kd.R (Kd.int .u8) 5 u7 w.heap.size (fun k_ => w.heap.size ≤ k_) vd d) := ⟨Kd.R_mono (Kd.R_lower (Kd.R_newM (M := fun k_ => w.heap.size ≤ k_) ho B.out.size (fun _ h_ => h_)) B.out.size) (fun _ h_ => h_.1)⟩
          replace B := Aside0.mk (below_step B.out hb)
          replace K6 := Aside0.mk (blk_below K6.out hb)
          replace K9 := Aside0.mk (blk_below K9.out hb)
          clear hb hHeld ho
          obtain ⟨Ad, cd, ed⟩ := Kd.R_slice D.out
          subst ed
          refine hK.out _ _ hh (fun hHeld => ?_)
          clear hK K hh
          refine norm_ (a' := ?_) ?_ ?_
          rotate_left
          {
            show Act.put _ (some 72) _ = _
            simp only [Act.put, List.setIfInBounds_toArray, List.set_cons_zero, List.set_cons_succ, i64_w, i32_w]
            rfl
          }
          refine pure_ (i := 24) (N := some 73) (v := ?_) (a' := ?_) #[true, true, true, true, true, true, true, true, true, true, true, true, true, true, true, true, true, true, true, true, true, true, true, true, true, true, false] rfl rfl (any_of HT_.out (by kernel_rfl)) (fun _ _ _ h => h) (Or.inl ⟨by rfl, ?_⟩) ?_ ?_
          rotate_left
          {
            intro w'
            go_simp
            with_reducible rfl
          }
          rotate_left
          {
            simp only [Act.put, List.setIfInBounds_toArray, List.set_cons_zero, List.set_cons_succ, i64_w, i32_w]
            rfl
          }
        rotate_left
        focus
          refine box_step ?hg (N := 9) ?hd (cs := #[.int .i64 0, .int .i64 0, .int .i64 0, .int .i64 0, .int .i64 0, .int .i64 0, .int .i64 0, .bool false, .int .i64 0, .bool false, .slice none 0 0, .slice none 0 0]) (t := 25) ?hr ?_; (case hd => rfl); (case hg => rfl); (case hr => first | (go_simp; done) | (go_simp; rfl))
          intro g9 hg u5 hbox hb
          have hh := pw_cell_below hb hHeld
          have K9 := Aside0.mk (show u5.heap[g9]? = some (.cells #[.int .i64 0, .int .i64 0, .int .i64 0, .int .i64 0, .int .i64 0, .int .i64 0, .int .i64 0, .bool false, .int .i64 0, .bool false, .slice none 0 0, .slice none 0 0] 25 (0, 0)) from hbox)
          have G9 := Aside0.mk ((by rw [hg]; exact B.out.size) : w.heap.size ≤ g9)
          have N69 := Aside0.mk ((by rw [hg]; exact Nat.ne_of_lt (blk_lt K6.out)) : g6 ≠ g9)
          replace B := Aside0.mk (below_step B.out hb)
          replace K6 := Aside0.mk (blk_below K6.out hb)
          clear hb hbox hg hHeld
          refine hK.out _ _ hh (fun hHeld => ?_)
          clear hK K hh
          refine norm_ (a' := ?_) ?_ ?_
          rotate_left
          {
            show Act.put _ (some 9) _ = _
            simp only [Act.put, List.setIfInBounds_toArray, List.set_cons_zero, List.set_cons_succ, i64_w, i32_w]
            rfl
          }
        focus
          refine one_ (i := 19) (N := some 68) #[true, true, true, true, true, true, true, true, true, true, true, true, true, true, true, true, true, true, true, true, true, true, true, false, false, true, false] rfl rfl (one_of HT_.out (by kernel_rfl)) (by decide) (fun K hK => ?_)
          refine goes_ Try.func25 (by kernel_rfl) rfl #[.slice Ag5 yg5.length cg5] (by rfl) rfl rfl wT ?_
          with_reducible refine (spec_l03Num.calls k _ _ yg5 t5 _ ?side1 ?side2 Fg5.out).mono ?_
          (case side1 => exact Kd.C_below HYg5.out B.out)
          (case side2 => exact HCg5.out)
          rintro e u6 ⟨rfl, dd⟩
          have hb := dd.below
          refine ⟨_, rfl, ?_⟩
          have hh := pw_cell_below hb hHeld
          replace B := Aside0.mk (below_step B.out hb)
          replace K6 := Aside0.mk (blk_below K6.out hb)
          replace K9 := Aside0.mk (blk_below K9.out hb)
          clear hb dd hHeld
          refine hK.out _ _ hh (fun hHeld => ?_)
          clear hK K hh
          refine norm_ (a' := ?_) ?_ ?_
          rotate_left
          {
            show Act.put _ (some 68) _ = _
            simp only [Act.put, List.setIfInBounds_toArray, List.set_cons_zero, List.set_cons_succ, i64_w, i32_w]
            rfl
          }
        focus
          refine one_ (i := 23) (N := some 72) #[true, true, true, true, true, true, true, true, true, true, true, true, true, true, true, true, true, true, true, true, true, true, true, true, false, true, false] rfl rfl (one_of HT_.out (by kernel_rfl)) (by decide) (fun K hK => ?_)
          refine goes_ Try.func26 (by kernel_rfl) rfl #[.slice Agd ygd.length cgd] (by rfl) rfl rfl wT ?_
          with_reducible refine (spec_l01Copy.calls k _ _ ygd d _ ?side1 ?side2 Fgd.out).mono ?_
          (case side1 => exact Kd.C_below HYgd.out B.out)
          (case side2 => exact HCgd.out)
          rintro e u7 ⟨vd, rfl, ho, hb⟩
          refine ⟨_, rfl, ?_⟩
          have hh := pw_cell_below hb hHeld
          have D : Aside0 (Kd.R (Kd.int .u8) 5 u7 w.heap.size (fun k_ => w.heap.size ≤ k_) vd d) := ⟨Kd.R_mono (Kd.R_lower (Kd.R_newM (M := fun k_ => w.heap.size ≤ k_) ho B.out.size (fun _ h_ => h_)) B.out.size) (fun _ h_ => h_.1)⟩
          replace B := Aside0.mk (below_step B.out hb)
          replace K6 := Aside0.mk (blk_below K6.out hb)
          replace K9 := Aside0.mk (blk_below K9.out hb)
          clear hb hHeld ho
          obtain ⟨Ad, cd, ed⟩ := Kd.R_slice D.out
          subst ed
          refine hK.out _ _ hh (fun hHeld => ?_)
          clear hK K hh
          refine norm_ (a' := ?_) ?_ ?_
          rotate_left
          {
            show Act.put _ (some 72) _ = _
            simp only [Act.put, List.setIfInBounds_toArray, List.set_cons_zero, List.set_cons_succ, i64_w, i32_w]
            rfl
          }
          refine pure_ (i := 24) (N := some 73) (v := ?_) (a' := ?_) #[true, true, true, true, true, true, true, true, true, true, true, true, true, true, true, true, true, true, true, true, true, true, true, true, true, true, false] rfl rfl (any_of HT_.out (by kernel_rfl)) (fun _ _ _ h => h) (Or.inl ⟨by rfl, ?_⟩) ?_ ?_
          rotate_left
          {
            intro w'
            go_simp
            with_reducible rfl
          }
          rotate_left
          {
            simp only [Act.put, List.setIfInBounds_toArray, List.set_cons_zero, List.set_cons_succ, i64_w, i32_w]
            rfl
          }
        rotate_left
        focus
          refine box_step ?hg (N := 9) ?hd (cs := #[.int .i64 0, .int .i64 0, .int .i64 0, .int .i64 0, .int .i64 0, .int .i64 0, .int .i64 0, .bool false, .int .i64 0, .bool false, .slice none 0 0, .slice none 0 0]) (t := 25) ?hr ?_; (case hd => rfl); (case hg => rfl); (case hr => first | (go_simp; done) | (go_simp; rfl))
          intro g9 hg u4 hbox hb
          have hh := pw_cell_below hb hHeld
          have K9 := Aside0.mk (show u4.heap[g9]? = some (.cells #[.int .i64 0, .int .i64 0, .int .i64 0, .int .i64 0, .int .i64 0, .int .i64 0, .int .i64 0, .bool false, .int .i64 0, .bool false, .slice none 0 0, .slice none 0 0] 25 (0, 0)) from hbox)
          have G9 := Aside0.mk ((by rw [hg]; exact B.out.size) : w.heap.size ≤ g9)
          have N69 := Aside0.mk ((by rw [hg]; exact Nat.ne_of_lt (blk_lt K6.out)) : g6 ≠ g9)
          replace B := Aside0.mk (below_step B.out hb)
          replace K6 := Aside0.mk (blk_below K6.out hb)
          clear hb hbox hg hHeld
          refine hK.out _ _ hh (fun hHeld => ?_)
          clear hK K hh
          refine norm_ (a' := ?_) ?_ ?_
          rotate_left
          {
            show Act.put _ (some 9) _ = _
            simp only [Act.put, List.setIfInBounds_toArray, List.set_cons_zero, List.set_cons_succ, i64_w, i32_w]
            rfl
          }
        focus
          refine one_ (i := 11) (N := some 60) #[true, true, true, true, true, true, true, true, true, true, true, true, true, true, true, true, true, true, true, false, true, true, true, false, false, true, false] rfl rfl (one_of HT_.out (by kernel_rfl)) (by decide) (fun K hK => ?_)
          refine goes_ Try.func25 (by kernel_rfl) rfl #[.slice Ag3 yg3.length cg3] (by rfl) rfl rfl wT ?_
          with_reducible refine (spec_l03Num.calls k _ _ yg3 t3 _ ?side1 ?side2 Fg3.out).mono ?_
          (case side1 => exact Kd.C_below HYg3.out B.out)
          (case side2 => exact HCg3.out)
          rintro e u5 ⟨rfl, dd⟩
          have hb := dd.below
          refine ⟨_, rfl, ?_⟩
          have hh := pw_cell_below hb hHeld
          replace B := Aside0.mk (below_step B.out hb)
          replace K6 := Aside0.mk (blk_below K6.out hb)
          replace K9 := Aside0.mk (blk_below K9.out hb)
          clear hb dd hHeld
          refine hK.out _ _ hh (fun hHeld => ?_)
          clear hK K hh
          refine norm_ (a' := ?_) ?_ ?_
          rotate_left
          {
            show Act.put _ (some 60) _ = _
            simp only [Act.put, List.setIfInBounds_toArray, List.set_cons_zero, List.set_cons_succ, i64_w, i32_w]
            rfl
          }
        focus
          refine one_ (i := 19) (N := some 68) #[true, true, true, true, true, true, true, true, true, true, true, true, true, true, true, true, true, true, true, true, true, true, true, false, false, true, false] rfl rfl (one_of HT_.out (by kernel_rfl)) (by decide) (fun K hK => ?_)
          refine goes_ Try.func25 (by kernel_rfl) rfl #[.slice Ag5 yg5.length cg5] (by rfl) rfl rfl wT ?_
          with_reducible refine (spec_l03Num.calls k _ _ yg5 t5 _ ?side1 ?side2 Fg5.out).mono ?_
          (case side1 => exact Kd.C_below HYg5.out B.out)
          (case side2 => exact HCg5.out)
          rintro e u6 ⟨rfl, dd⟩
          have hb := dd.below
          refine ⟨_, rfl, ?_⟩
          have hh := pw_cell_below hb hHeld
          replace B := Aside0.mk (below_step B.out hb)
          replace K6 := Aside0.mk (blk_below K6.out hb)
          replace K9 := Aside0.mk (blk_below K9.out hb)
          clear hb dd hHeld
          refine hK.out _ _ hh (fun hHeld => ?_)
          clear hK K hh
          refine norm_ (a' := ?_) ?_ ?_
          rotate_left
          {
            show Act.put _ (some 68) _ = _
            simp only [Act.put, List.setIfInBounds_toArray, List.set_cons_zero, List.set_cons_succ, i64_w, i32_w]
            rfl
          }
        focus
          refine one_ (i := 23) (N := some 72) #[true, true, true, true, true, true, true, true, true, true, true, true, true, true, true, true, true, true, true, true, true, true, true, true, false, true, false] rfl rfl (one_of HT_.out (by kernel_rfl)) (by decide) (fun K hK => ?_)
          refine goes_ Try.func26 (by kernel_rfl) rfl #[.slice Agd ygd.length cgd] (by rfl) rfl rfl wT ?_
          with_reducible refine (spec_l01Copy.calls k _ _ ygd d _ ?side1 ?side2 Fgd.out).mono ?_
          (case side1 => exact Kd.C_below HYgd.out B.out)
          (case side2 => exact HCgd.out)
          rintro e u7 ⟨vd, rfl, ho, hb⟩
          refine ⟨_, rfl, ?_⟩
          have hh := pw_cell_below hb hHeld
          have D : Aside0 (Kd.R (Kd.int .u8) 5 u7 w.heap.size (fun k_ => w.heap.size ≤ k_) vd d) := ⟨Kd.R_mono (Kd.R_lower (Kd.R_newM (M := fun k_ => w.heap.size ≤ k_) ho B.out.size (fun _ h_ => h_)) B.out.size) (fun _ h_ => h_.1)⟩
          replace B := Aside0.mk (below_step B.out hb)
          replace K6 := Aside0.mk (blk_below K6.out hb)
          replace K9 := Aside0.mk (blk_below K9.out hb)
          clear hb hHeld ho
          obtain ⟨Ad, cd, ed⟩ := Kd.R_slice D.out
          subst ed
          refine hK.out _ _ hh (fun hHeld => ?_)
          clear hK K hh
          refine norm_ (a' := ?_) ?_ ?_
          rotate_left
          {
            show Act.put _ (some 72) _ = _
            simp only [Act.put, List.setIfInBounds_toArray, List.set_cons_zero, List.set_cons_succ, i64_w, i32_w]
            rfl
          }
          refine pure_ (i := 24) (N := some 73) (v := ?_) (a' := ?_) #[true, true, true, true, true, true, true, true, true, true, true, true, true, true, true, true, true, true, true, true, true, true, true, true, true, true, false] rfl rfl (any_of HT_.out (by kernel_rfl)) (fun _ _ _ h => h) (Or.inl ⟨by rfl, ?_⟩) ?_ ?_
          rotate_left
          {
            intro w'
            go_simp
            with_reducible rfl
          }
          rotate_left
          {
            simp only [Act.put, List.setIfInBounds_toArray, List.set_cons_zero, List.set_cons_succ, i64_w, i32_w]
            rfl
          }
        rotate_left
        focus
          refine box_step ?hg (N := 9) ?hd (cs := #[.int .i64 0, .int .i64 0, .int .i64 0, .int .i64 0, .int .i64 0, .int .i64 0, .int .i64 0, .bool false, .int .i64 0, .bool false, .slice none 0 0, .slice none 0 0]) (t := 25) ?hr ?_; (case hd => rfl); (case hg => rfl); (case hr => first | (go_simp; done) | (go_simp; rfl))
          intro g9 hg u3 hbox hb
          have hh := pw_cell_below hb hHeld
          have K9 := Aside0.mk (show u3.heap[g9]? = some (.cells #[.int .i64 0, .int .i64 0, .int .i64 0, .int .i64 0, .int .i64 0, .int .i64 0, .int .i64 0, .bool false, .int .i64 0, .bool false, .slice none 0 0, .slice none 0 0] 25 (0, 0)) from hbox)
          have G9 := Aside0.mk ((by rw [hg]; exact B.out.size) : w.heap.size ≤ g9)
          have N69 := Aside0.mk ((by rw [hg]; exact Nat.ne_of_lt (blk_lt K6.out)) : g6 ≠ g9)
          replace B := Aside0.mk (below_step B.out hb)
          replace K6 := Aside0.mk (blk_below K6.out hb)
          clear hb hbox hg hHeld
          refine hK.out _ _ hh (fun hHeld => ?_)
          clear hK K hh
          refine norm_ (a' := ?_) ?_ ?_
          rotate_left
          {
            show Act.put _ (some 9) _ = _
            simp only [Act.put, List.setIfInBounds_toArray, List.set_cons_zero, List.set_cons_succ, i64_w, i32_w]
            rfl
          }
        focus
          refine one_ (i := 8) (N := some 57) #[true, true, true, true, true, true, true, true, true, true, true, false, true, true, true, true, true, true, true, false, true, true, true, false, false, true, false] rfl rfl (one_of HT_.out (by kernel_rfl)) (by decide) (fun K hK => ?_)
          refine goes_ Try.func25 (by kernel_rfl) rfl #[.slice Ag2 yg2.length cg2] (by rfl) rfl rfl wT ?_
          with_reducible refine (spec_l03Num.calls k _ _ yg2 t2 _ ?side1 ?side2 Fg2.out).mono ?_
          (case side1 => exact Kd.C_below HYg2.out B.out)
          (case side2 => exact HCg2.out)
          rintro e u4 ⟨rfl, dd⟩
          have hb := dd.below
          refine ⟨_, rfl, ?_⟩
          have hh := pw_cell_below hb hHeld
          replace B := Aside0.mk (below_step B.out hb)
          replace K6 := Aside0.mk (blk_below K6.out hb)
          replace K9 := Aside0.mk (blk_below K9.out hb)
          clear hb dd hHeld
          refine hK.out _ _ hh (fun hHeld => ?_)
          clear hK K hh
          refine norm_ (a' := ?_) ?_ ?_
          rotate_left
          {
            show Act.put _ (some 57) _ = _
            simp only [Act.put, List.setIfInBounds_toArray, List.set_cons_zero, List.set_cons_succ, i64_w, i32_w]
            rfl
          }
        focus
          refine one_ (i := 11) (N := some 60) #[true, true, true, true, true, true, true, true, true, true, true, true, true, true, true, true, true, true, true, false, true, true, true, false, false, true, false] rfl rfl (one_of HT_.out (by kernel_rfl)) (by decide) (fun K hK => ?_)
          refine goes_ Try.func25 (by kernel_rfl) rfl #[.slice Ag3 yg3.length cg3] (by rfl) rfl rfl wT ?_
          with_reducible refine (spec_l03Num.calls k _ _ yg3 t3 _ ?side1 ?side2 Fg3.out).mono ?_
          (case side1 => exact Kd.C_below HYg3.out B.out)
          (case side2 => exact HCg3.out)
          rintro e u5 ⟨rfl, dd⟩
          have hb := dd.below
          refine ⟨_, rfl, ?_⟩
          have hh := pw_cell_below hb hHeld
          replace B := Aside0.mk (below_step B.out hb)
          replace K6 := Aside0.mk (blk_below K6.out hb)
          replace K9 := Aside0.mk (blk_below K9.out hb)
          clear hb dd hHeld
          refine hK.out _ _ hh (fun hHeld => ?_)
          clear hK K hh
          refine norm_ (a' := ?_) ?_ ?_
          rotate_left
          {
            show Act.put _ (some 60) _ = _
            simp only [Act.put, List.setIfInBounds_toArray, List.set_cons_zero, List.set_cons_succ, i64_w, i32_w]
            rfl
          }
        focus
          refine one_ (i := 19) (N := some 68) #[true, true, true, true, true, true, true, true, true, true, true, true, true, true, true, true, true, true, true, true, true, true, true, false, false, true, false] rfl rfl (one_of HT_.out (by kernel_rfl)) (by decide) (fun K hK => ?_)
          refine goes_ Try.func25 (by kernel_rfl) rfl #[.slice Ag5 yg5.length cg5] (by rfl) rfl rfl wT ?_
          with_reducible refine (spec_l03Num.calls k _ _ yg5 t5 _ ?side1 ?side2 Fg5.out).mono ?_
          (case side1 => exact Kd.C_below HYg5.out B.out)
          (case side2 => exact HCg5.out)
          rintro e u6 ⟨rfl, dd⟩
          have hb := dd.below
          refine ⟨_, rfl, ?_⟩
          have hh := pw_cell_below hb hHeld
          replace B := Aside0.mk (below_step B.out hb)
          replace K6 := Aside0.mk (blk_below K6.out hb)
          replace K9 := Aside0.mk (blk_below K9.out hb)
          clear hb dd hHeld
          refine hK.out _ _ hh (fun hHeld => ?_)
          clear hK K hh
          refine norm_ (a' := ?_) ?_ ?_
          rotate_left
          {
            show Act.put _ (some 68) _ = _
            simp only [Act.put, List.setIfInBounds_toArray, List.set_cons_zero, List.set_cons_succ, i64_w, i32_w]
            rfl
          }
        focus
          refine one_ (i := 23) (N := some 72) #[true, true, true, true, true, true, true, true, true, true, true, true, true, true, true, true, true, true, true, true, true, true, true, true, false, true, false] rfl rfl (one_of HT_.out (by kernel_rfl)) (by decide) (fun K hK => ?_)
          refine goes_ Try.func26 (by kernel_rfl) rfl #[.slice Agd ygd.length cgd] (by rfl) rfl rfl wT ?_
          with_reducible refine (spec_l01Copy.calls k _ _ ygd d _ ?side1 ?side2 Fgd.out).mono ?_
          (case side1 => exact Kd.C_below HYgd.out B.out)
          (case side2 => exact HCgd.out)
          rintro e u7 ⟨vd, rfl, ho, hb⟩
          refine ⟨_, rfl, ?_⟩
          have hh := pw_cell_below hb hHeld
          have D : Aside0 (Kd.R (Kd.int .u8) 5 u7 w.heap.size (fun k_ => w.heap.size ≤ k_) vd d) := ⟨Kd.R_mono (Kd.R_lower (Kd.R_newM (M := fun k_ => w.heap.size ≤ k_) ho B.out.size (fun _ h_ => h_)) B.out.size) (fun _ h_ => h_.1)⟩
          replace B := Aside0.mk (below_step B.out hb)
          replace K6 := Aside0.mk (blk_below K6.out hb)
          replace K9 := Aside0.mk (blk_below K9.out hb)
          clear hb hHeld ho
          obtain ⟨Ad, cd, ed⟩ := Kd.R_slice D.out
          subst ed
          refine hK.out _ _ hh (fun hHeld => ?_)
          clear hK K hh
          refine norm_ (a' := ?_) ?_ ?_
          rotate_left
          {
            show Act.put _ (some 72) _ = _
            simp only [Act.put, List.setIfInBounds_toArray, List.set_cons_zero, List.set_cons_succ, i64_w, i32_w]
            rfl
          }
          refine pure_ (i := 24) (N := some 73) (v := ?_) (a' := ?_) #[true, true, true, true, true, true, true, true, true, true, true, true, true, true, true, true, true, true, true, true, true, true, true, true, true, true, false] rfl rfl (any_of HT_.out (by kernel_rfl)) (fun _ _ _ h => h) (Or.inl ⟨by rfl, ?_⟩) ?_ ?_
          rotate_left
          {
            intro w'
            go_simp
            with_reducible rfl
          }
          rotate_left
          {
            simp only [Act.put, List.setIfInBounds_toArray, List.set_cons_zero, List.set_cons_succ, i64_w, i32_w]
            rfl
          }
        rotate_left
        focus
          refine box_step ?hg (N := 9) ?hd (cs := #[.int .i64 0, .int .i64 0, .int .i64 0, .int .i64 0, .int .i64 0, .int .i64 0, .int .i64 0, .bool false, .int .i64 0, .bool false, .slice none 0 0, .slice none 0 0]) (t := 25) ?hr ?_; (case hd => rfl); (case hg => rfl); (case hr => first | (go_simp; done) | (go_simp; rfl))
          intro g9 hg u2 hbox hb
          have hh := pw_cell_below hb hHeld
          have K9 := Aside0.mk (show u2.heap[g9]? = some (.cells #[.int .i64 0, .int .i64 0, .int .i64 0, .int .i64 0, .int .i64 0, .int .i64 0, .int .i64 0, .bool false, .int .i64 0, .bool false, .slice none 0 0, .slice none 0 0] 25 (0, 0)) from hbox)
          have G9 := Aside0.mk ((by rw [hg]; exact B.out.size) : w.heap.size ≤ g9)
          have N69 := Aside0.mk ((by rw [hg]; exact Nat.ne_of_lt (blk_lt K6.out)) : g6 ≠ g9)
          replace B := Aside0.mk (below_step B.out hb)
          replace K6 := Aside0.mk (blk_below K6.out hb)
          clear hb hbox hg hHeld
          refine hK.out _ _ hh (fun hHeld => ?_)
          clear hK K hh
          refine norm_ (a' := ?_) ?_ ?_
          rotate_left
          {
            show Act.put _ (some 9) _ = _
            simp only [Act.put, List.setIfInBounds_toArray, List.set_cons_zero, List.set_cons_succ, i64_w, i32_w]
            rfl
          }
        focus
          refine one_ (i := 5) (N := some 54) #[true, true, true, true, true, true, true, true, false, true, true, false, true, true, true, true, true, true, true, false, true, true, true, false, false, true, false] rfl rfl (one_of HT_.out (by kernel_rfl)) (by decide) (fun K hK => ?_)
          refine goes_ Try.func25 (by kernel_rfl) rfl #[.slice Ag1 yg1.length cg1] (by rfl) rfl rfl wT ?_
          with_reducible refine (spec_l03Num.calls k _ _ yg1 t1 _ ?side1 ?side2 Fg1.out).mono ?_
          (case side1 => exact Kd.C_below HYg1.out B.out)
          (case side2 => exact HCg1.out)
          rintro e u3 ⟨rfl, dd⟩
          have hb := dd.below
          refine ⟨_, rfl, ?_⟩
          have hh := pw_cell_below hb hHeld
          replace B := Aside0.mk (below_step B.out hb)
          replace K6 := Aside0.mk (blk_below K6.out hb)
          replace K9 := Aside0.mk (blk_below K9.out hb)
          clear hb dd hHeld
          refine hK.out _ _ hh (fun hHeld => ?_)
          clear hK K hh
          refine norm_ (a' := ?_) ?_ ?_
          rotate_left
          {
            show Act.put _ (some 54) _ = _
            simp only [Act.put, List.setIfInBounds_toArray, List.set_cons_zero, List.set_cons_succ, i64_w, i32_w]
            rfl
          }
        focus
          refine one_ (i := 8) (N := some 57) #[true, true, true, true, true, true, true, true, true, true, true, false, true, true, true, true, true, true, true, false, true, true, true, false, false, true, false] rfl rfl (one_of HT_.out (by kernel_rfl)) (by decide) (fun K hK => ?_)
          refine goes_ Try.func25 (by kernel_rfl) rfl #[.slice Ag2 yg2.length cg2] (by rfl) rfl rfl wT ?_
          with_reducible refine (spec_l03Num.calls k _ _ yg2 t2 _ ?side1 ?side2 Fg2.out).mono ?_
          (case side1 => exact Kd.C_below HYg2.out B.out)
          (case side2 => exact HCg2.out)
          rintro e u4 ⟨rfl, dd⟩
          have hb := dd.below
          refine ⟨_, rfl, ?_⟩
          have hh := pw_cell_below hb hHeld
          replace B := Aside0.mk (below_step B.out hb)
          replace K6 := Aside0.mk (blk_below K6.out hb)
          replace K9 := Aside0.mk (blk_below K9.out hb)
          clear hb dd hHeld
          refine hK.out _ _ hh (fun hHeld => ?_)
          clear hK K hh
          refine norm_ (a' := ?_) ?_ ?_
          rotate_left
          {
            show Act.put _ (some 57) _ = _
            simp only [Act.put, List.setIfInBounds_toArray, List.set_cons_zero, List.set_cons_succ, i64_w, i32_w]
            rfl
          }
        focus
          refine one_ (i := 11) (N := some 60) #[true, true, true, true, true, true, true, true, true, true, true, true, true, true, true, true, true, true, true, false, true, true, true, false, false, true, false] rfl rfl (one_of HT_.out (by kernel_rfl)) (by decide) (fun K hK => ?_)
          refine goes_ Try.func25 (by kernel_rfl) rfl #[.slice Ag3 yg3.length cg3] (by rfl) rfl rfl wT ?_
          with_reducible refine (spec_l03Num.calls k _ _ yg3 t3 _ ?side1 ?side2 Fg3.out).mono ?_
          (case side1 => exact Kd.C_below HYg3.out B.out)
          (case side2 => exact HCg3.out)
          rintro e u5 ⟨rfl, dd⟩
          have hb := dd.below
          refine ⟨_, rfl, ?_⟩
          have hh := pw_cell_below hb hHeld
          replace B := Aside0.mk (below_step B.out hb)
          replace K6 := Aside0.mk (blk_below K6.out hb)
          replace K9 := Aside0.mk (blk_below K9.out hb)
          clear hb dd hHeld
          refine hK.out _ _ hh (fun hHeld => ?_)
          clear hK K hh
          refine norm_ (a' := ?_) ?_ ?_
          rotate_left
          {
            show Act.put _ (some 60) _ = _
            simp only [Act.put, List.setIfInBounds_toArray, List.set_cons_zero, List.set_cons_succ, i64_w, i32_w]
            rfl
          }
        focus
          refine one_ (i := 19) (N := some 68) #[true, true, true, true, true, true, true, true, true, true, true, true, true, true, true, true, true, true, true, true, true, true, true, false, false, true, false] rfl rfl (one_of HT_.out (by kernel_rfl)) (by decide) (fun K hK => ?_)
          refine goes_ Try.func25 (by kernel_rfl) rfl #[.slice Ag5 yg5.length cg5] (by rfl) rfl rfl wT ?_
          with_reducible refine (spec_l03Num.calls k _ _ yg5 t5 _ ?side1 ?side2 Fg5.out).mono ?_
          (case side1 => exact Kd.C_below HYg5.out B.out)
          (case side2 => exact HCg5.out)
          rintro e u6 ⟨rfl, dd⟩
          have hb := dd.below
          refine ⟨_, rfl, ?_⟩
          have hh := pw_cell_below hb hHeld
          replace B := Aside0.mk (below_step B.out hb)
          replace K6 := Aside0.mk (blk_below K6.out hb)
          replace K9 := Aside0.mk (blk_below K9.out hb)
          clear hb dd hHeld
          refine hK.out _ _ hh (fun hHeld => ?_)
          clear hK K hh
          refine norm_ (a' := ?_) ?_ ?_
          rotate_left
          {
            show Act.put _ (some 68) _ = _
            simp only [Act.put, List.setIfInBounds_toArray, List.set_cons_zero, List.set_cons_succ, i64_w, i32_w]
            rfl
          }
        focus
          refine one_ (i := 23) (N := some 72) #[true, true, true, true, true, true, true, true, true, true, true, true, true, true, true, true, true, true, true, true, true, true, true, true, false, true, false] rfl rfl (one_of HT_.out (by kernel_rfl)) (by decide) (fun K hK => ?_)
          refine goes_ Try.func26 (by kernel_rfl) rfl #[.slice Agd ygd.length cgd] (by rfl) rfl rfl wT ?_
          with_reducible refine (spec_l01Copy.calls k _ _ ygd d _ ?side1 ?side2 Fgd.out).mono ?_
          (case side1 => exact Kd.C_below HYgd.out B.out)
          (case side2 => exact HCgd.out)
          rintro e u7 ⟨vd, rfl, ho, hb⟩
          refine ⟨_, rfl, ?_⟩
          have hh := pw_cell_below hb hHeld
          have D : Aside0 (Kd.R (Kd.int .u8) 5 u7 w.heap.size (fun k_ => w.heap.size ≤ k_) vd d) := ⟨Kd.R_mono (Kd.R_lower (Kd.R_newM (M := fun k_ => w.heap.size ≤ k_) ho B.out.size (fun _ h_ => h_)) B.out.size) (fun _ h_ => h_.1)⟩
          replace B := Aside0.mk (below_step B.out hb)
          replace K6 := Aside0.mk (blk_below K6.out hb)
          replace K9 := Aside0.mk (blk_below K9.out hb)
          clear hb hHeld ho
          obtain ⟨Ad, cd, ed⟩ := Kd.R_slice D.out
          subst ed
          refine hK.out _ _ hh (fun hHeld => ?_)
          clear hK K hh
          refine norm_ (a' := ?_) ?_ ?_
          rotate_left
          {
            show Act.put _ (some 72) _ = _
            simp only [Act.put, List.setIfInBounds_toArray, List.set_cons_zero, List.set_cons_succ, i64_w, i32_w]
            rfl
          }
          refine pure_ (i := 24) (N := some 73) (v := ?_) (a' := ?_) #[true, true, true, true, true, true, true, true, true, true, true, true, true, true, true, true, true, true, true, true, true, true, true, true, true, true, false] rfl rfl (any_of HT_.out (by kernel_rfl)) (fun _ _ _ h => h) (Or.inl ⟨by rfl, ?_⟩) ?_ ?_
          rotate_left
          {
            intro w'
            go_simp
            with_reducible rfl
          }
          rotate_left
          {
            simp only [Act.put, List.setIfInBounds_toArray, List.set_cons_zero, List.set_cons_succ, i64_w, i32_w]
            rfl
          }
        rotate_left
        focus
          refine box_step ?hg (N := 9) ?hd (cs := #[.int .i64 0, .int .i64 0, .int .i64 0, .int .i64 0, .int .i64 0, .int .i64 0, .int .i64 0, .bool false, .int .i64 0, .bool false, .slice none 0 0, .slice none 0 0]) (t := 25) ?hr ?_; (case hd => rfl); (case hg => rfl); (case hr => first | (go_simp; done) | (go_simp; rfl))
          intro g9 hg u1 hbox hb
          have hh := pw_cell_below hb hHeld
          have K9 := Aside0.mk (show u1.heap[g9]? = some (.cells #[.int .i64 0, .int .i64 0, .int .i64 0, .int .i64 0, .int .i64 0, .int .i64 0, .int .i64 0, .bool false, .int .i64 0, .bool false, .slice none 0 0, .slice none 0 0] 25 (0, 0)) from hbox)
          have G9 := Aside0.mk ((by rw [hg]; exact B.out.size) : w.heap.size ≤ g9)
          have N69 := Aside0.mk ((by rw [hg]; exact Nat.ne_of_lt (blk_lt K6.out)) : g6 ≠ g9)
          replace B := Aside0.mk (below_step B.out hb)
          replace K6 := Aside0.mk (blk_below K6.out hb)
          clear hb hbox hg hHeld
          refine hK.out _ _ hh (fun hHeld => ?_)
          clear hK K hh
          refine norm_ (a' := ?_) ?_ ?_
          rotate_left
          {
            show Act.put _ (some 9) _ = _
            simp only [Act.put, List.setIfInBounds_toArray, List.set_cons_zero, List.set_cons_succ, i64_w, i32_w]
            rfl
          }
        focus
          refine one_ (i := 2) (N := some 51) #[true, true, true, true, true, false, true, true, false, true, true, false, true, true, true, true, true, true, true, false, true, true, true, false, false, true, false] rfl rfl (one_of HT_.out (by kernel_rfl)) (by decide) (fun K hK => ?_)
          refine goes_ Try.func25 (by kernel_rfl) rfl #[.slice (some ad) yg0.length c0] (by rfl) rfl rfl wT ?_
          with_reducible refine (spec_l03Num.calls k _ _ yg0 t0 _ ?side1 ?side2 Fg0.out).mono ?_
          (case side1 => exact Kd.C_below HYg0.out B.out)
          (case side2 => exact HCg0.out)
          rintro e u2 ⟨rfl, dd⟩
          have hb := dd.below
          refine ⟨_, rfl, ?_⟩
          have hh := pw_cell_below hb hHeld
          replace B := Aside0.mk (below_step B.out hb)
          replace K6 := Aside0.mk (blk_below K6.out hb)
          replace K9 := Aside0.mk (blk_below K9.out hb)
          clear hb dd hHeld
          refine hK.out _ _ hh (fun hHeld => ?_)
          clear hK K hh
          refine norm_ (a' := ?_) ?_ ?_
          rotate_left
          {
            show Act.put _ (some 51) _ = _
            simp only [Act.put, List.setIfInBounds_toArray, List.set_cons_zero, List.set_cons_succ, i64_w, i32_w]
            rfl
          }
        focus
          refine one_ (i := 5) (N := some 54) #[true, true, true, true, true, true, true, true, false, true, true, false, true, true, true, true, true, true, true, false, true, true, true, false, false, true, false] rfl rfl (one_of HT_.out (by kernel_rfl)) (by decide) (fun K hK => ?_)
          refine goes_ Try.func25 (by kernel_rfl) rfl #[.slice Ag1 yg1.length cg1] (by rfl) rfl rfl wT ?_
          with_reducible refine (spec_l03Num.calls k _ _ yg1 t1 _ ?side1 ?side2 Fg1.out).mono ?_
          (case side1 => exact Kd.C_below HYg1.out B.out)
          (case side2 => exact HCg1.out)
          rintro e u3 ⟨rfl, dd⟩
          have hb := dd.below
          refine ⟨_, rfl, ?_⟩
          have hh := pw_cell_below hb hHeld
          replace B := Aside0.mk (below_step B.out hb)
          replace K6 := Aside0.mk (blk_below K6.out hb)
          replace K9 := Aside0.mk (blk_below K9.out hb)
          clear hb dd hHeld
          refine hK.out _ _ hh (fun hHeld => ?_)
          clear hK K hh
          refine norm_ (a' := ?_) ?_ ?_
          rotate_left
          {
            show Act.put _ (some 54) _ = _
            simp only [Act.put, List.setIfInBounds_toArray, List.set_cons_zero, List.set_cons_succ, i64_w, i32_w]
            rfl
          }
        focus
          refine one_ (i := 8) (N := some 57) #[true, true, true, true, true, true, true, true, true, true, true, false, true, true, true, true, true, true, true, false, true, true, true, false, false, true, false] rfl rfl (one_of HT_.out (by kernel_rfl)) (by decide) (fun K hK => ?_)
          refine goes_ Try.func25 (by kernel_rfl) rfl #[.slice Ag2 yg2.length cg2] (by rfl) rfl rfl wT ?_
          with_reducible refine (spec_l03Num.calls k _ _ yg2 t2 _ ?side1 ?side2 Fg2.out).mono ?_
          (case side1 => exact Kd.C_below HYg2.out B.out)
          (case side2 => exact HCg2.out)
          rintro e u4 ⟨rfl, dd⟩
          have hb := dd.below
          refine ⟨_, rfl, ?_⟩
          have hh := pw_cell_below hb hHeld
          replace B := Aside0.mk (below_step B.out hb)
          replace K6 := Aside0.mk (blk_below K6.out hb)
          replace K9 := Aside0.mk (blk_below K9.out hb)
          clear hb dd hHeld
          refine hK.out _ _ hh (fun hHeld => ?_)
          clear hK K hh
          refine norm_ (a' := ?_) ?_ ?_
          rotate_left
          {
            show Act.put _ (some 57) _ = _
            simp only [Act.put, List.setIfInBounds_toArray, List.set_cons_zero, List.set_cons_succ, i64_w, i32_w]
            rfl
          }
        focus
          refine one_ (i := 11) (N := some 60) #[true, true, true, true, true, true, true, true, true, true, true, true, true, true, true, true, true, true, true, false, true, true, true, false, false, true, false] rfl rfl (one_of HT_.out (by kernel_rfl)) (by decide) (fun K hK => ?_)
          refine goes_ Try.func25 (by kernel_rfl) rfl #[.slice Ag3 yg3.length cg3] (by rfl) rfl rfl wT ?_
          with_reducible refine (spec_l03Num.calls k _ _ yg3 t3 _ ?side1 ?side2 Fg3.out).mono ?_
          (case side1 => exact Kd.C_below HYg3.out B.out)
          (case side2 => exact HCg3.out)
          rintro e u5 ⟨rfl, dd⟩
          have hb := dd.below
          refine ⟨_, rfl, ?_⟩
          have hh := pw_cell_below hb hHeld
          replace B := Aside0.mk (below_step B.out hb)
          replace K6 := Aside0.mk (blk_below K6.out hb)
          replace K9 := Aside0.mk (blk_below K9.out hb)
          clear hb dd hHeld
          refine hK.out _ _ hh (fun hHeld => ?_)
          clear hK K hh
          refine norm_ (a' := ?_) ?_ ?_
          rotate_left
          {
            show Act.put _ (some 60) _ = _
            simp only [Act.put, List.setIfInBounds_toArray, List.set_cons_zero, List.set_cons_succ, i64_w, i32_w]
            rfl
          }
        focus
          refine one_ (i := 19) (N := some 68) #[true, true, true, true, true, true, true, true, true, true, true, true, true, true, true, true, true, true, true, true, true, true, true, false, false, true, false] rfl rfl (one_of HT_.out (by kernel_rfl)) (by decide) (fun K hK => ?_)
          refine goes_ Try.func25 (by kernel_rfl) rfl #[.slice Ag5 yg5.length cg5] (by rfl) rfl rfl wT ?_
          with_reducible refine (spec_l03Num.calls k _ _ yg5 t5 _ ?side1 ?side2 Fg5.out).mono ?_
          (case side1 => exact Kd.C_below HYg5.out B.out)
          (case side2 => exact HCg5.out)
          rintro e u6 ⟨rfl, dd⟩
          have hb := dd.below
          refine ⟨_, rfl, ?_⟩
          have hh := pw_cell_below hb hHeld
          replace B := Aside0.mk (below_step B.out hb)
          replace K6 := Aside0.mk (blk_below K6.out hb)
          replace K9 := Aside0.mk (blk_below K9.out hb)
          clear hb dd hHeld
          refine hK.out _ _ hh (fun hHeld => ?_)
          clear hK K hh
          refine norm_ (a' := ?_) ?_ ?_
          rotate_left
          {
            show Act.put _ (some 68) _ = _
            simp only [Act.put, List.setIfInBounds_toArray, List.set_cons_zero, List.set_cons_succ, i64_w, i32_w]
            rfl
          }
        focus
          refine one_ (i := 23) (N := some 72) #[true, true, true, true, true, true, true, true, true, true, true, true, true, true, true, true, true, true, true, true, true, true, true, true, false, true, false] rfl rfl (one_of HT_.out (by kernel_rfl)) (by decide) (fun K hK => ?_)
          refine goes_ Try.func26 (by kernel_rfl) rfl #[.slice Agd ygd.length cgd] (by rfl) rfl rfl wT ?_
          with_reducible refine (spec_l01Copy.calls k _ _ ygd d _ ?side1 ?side2 Fgd.out).mono ?_
          (case side1 => exact Kd.C_below HYgd.out B.out)
          (case side2 => exact HCgd.out)
          rintro e u7 ⟨vd, rfl, ho, hb⟩
          refine ⟨_, rfl, ?_⟩
          have hh := pw_cell_below hb hHeld
          have D : Aside0 (Kd.R (Kd.int .u8) 5 u7 w.heap.size (fun k_ => w.heap.size ≤ k_) vd d) := ⟨Kd.R_mono (Kd.R_lower (Kd.R_newM (M := fun k_ => w.heap.size ≤ k_) ho B.out.size (fun _ h_ => h_)) B.out.size) (fun _ h_ => h_.1)⟩
          replace B := Aside0.mk (below_step B.out hb)
          replace K6 := Aside0.mk (blk_below K6.out hb)
          replace K9 := Aside0.mk (blk_below K9.out hb)
          clear hb hHeld ho
          obtain ⟨Ad, cd, ed⟩ := Kd.R_slice D.out
          subst ed
          refine hK.out _ _ hh (fun hHeld => ?_)
          clear hK K hh
          refine norm_ (a' := ?_) ?_ ?_
          rotate_left
          {
            show Act.put _ (some 72) _ = _
            simp only [Act.put, List.setIfInBounds_toArray, List.set_cons_zero, List.set_cons_succ, i64_w, i32_w]
            rfl
          }
          refine pure_ (i := 24) (N := some 73) (v := ?_) (a' := ?_) #[true, true, true, true, true, true, true, true, true, true, true, true, true, true, true, true, true, true, true, true, true, true, true, true, true, true, false] rfl rfl (any_of HT_.out (by kernel_rfl)) (fun _ _ _ h => h) (Or.inl ⟨by rfl, ?_⟩) ?_ ?_
          rotate_left
          {
            intro w'
            go_simp
            with_reducible rfl
          }
          rotate_left
          {
            simp only [Act.put, List.setIfInBounds_toArray, List.set_cons_zero, List.set_cons_succ, i64_w, i32_w]
            rfl
          }
        rotate_left
        all_goals (
          refine last_ (i := 26) (N := none) #[true, true, true, true, true, true, true, true, true, true, true, true, true, true, true, true, true, true, true, true, true, true, true, true, true, true, true] rfl rfl (one_of HT_.out (by kernel_rfl)) (by decide) (fun K hK => ?_)
          obtain ⟨⟨hczs_0, hczs_1, hczs_2, hczs_3, hczs_4, hczs_5, hczs_6, hczs_7, hczs_8, hczs_9, hczs_10, hczs_11⟩, hfzs_0, hfzs_1, hfzs_2, hfzs_3, hfzs_4, hfzs_5, hfzs_6, hfzs_7, hfzs_8, hfzs_9, hfzs_10, hfzs_11⟩ := cells12 K9.out
          refine skip_ (w1 := put12 u7 g9 (.int .i64 t0) (.int .i64 t1) (.int .i64 t2) (.int .i64 t3) (.int .i64 (wrap64 (Go.bits .and .u8 (rd l0 13) 63))) (.int .i64 t5) (.int .i64 0) (.bool false) (.int .i64 0) (.bool false) (.slice none 0 0) (.slice Ad d.length cd)) (by rfl) rfl ?_ ?_
          {
            first | (go_simp; done) | (go_simp; rfl)
          }
          generalize hu_ : put12 u7 g9 (.int .i64 t0) (.int .i64 t1) (.int .i64 t2) (.int .i64 t3) (.int .i64 (wrap64 (Go.bits .and .u8 (rd l0 13) 63))) (.int .i64 t5) (.int .i64 0) (.bool false) (.int .i64 0) (.bool false) (.slice none 0 0) (.slice Ad d.length cd) = u8
          replace D : Aside0 (Kd.R (Kd.int .u8) 5 u8 w.heap.size (fun k_ => w.heap.size ≤ k_) (.slice Ad d.length cd) d) := ⟨by rw [← hu_]; exact Kd.R_mono (Kd.R_step (Kd.R_types D.out K9.out (by decide)) (fun _ hk _ => far12 hk.2)) (fun _ hk => hk.1)⟩
          replace K6 : Aside0 (u8.heap[g6]? = some (.cells #[.int .i64 0, .int .i64 0, .int .i64 0, .int .i64 0, .int .i64 0, .int .i64 0, .int .i64 0, .bool false, .int .i64 0, .bool false, .slice none 0 0, .slice none 0 0] 25 (0, 0))) := ⟨by rw [← hu_]; exact (far12 N69.out).trans K6.out⟩
          replace K9 : Aside0 (u8.heap[g9]? = some (.cells #[.int .i64 t0, .int .i64 t1, .int .i64 t2, .int .i64 t3, .int .i64 (wrap64 (Go.bits .and .u8 (rd l0 13) 63)), .int .i64 t5, .int .i64 0, .bool false, .int .i64 0, .bool false, .slice none 0 0, .slice Ad d.length cd] 25 (0, 0))) := ⟨by rw [← hu_]; exact set12 K9.out⟩
          replace B : Aside0 (Below w.heap.size w u8) := ⟨by rw [← hu_]; refine below_set ?_ G9.out; refine below_set ?_ G9.out; refine below_set ?_ G9.out; refine below_set ?_ G9.out; refine below_set ?_ G9.out; refine below_set ?_ G9.out; refine below_set ?_ G9.out; refine below_set ?_ G9.out; refine below_set ?_ G9.out; refine below_set ?_ G9.out; refine below_set ?_ G9.out; refine below_set ?_ G9.out; exact B.out⟩
          clear hu_
          clear hczs_0 hfzs_0 hczs_1 hfzs_1 hczs_2 hfzs_2 hczs_3 hfzs_3 hczs_4 hfzs_4 hczs_5 hfzs_5 hczs_6 hfzs_6 hczs_7 hfzs_7 hczs_8 hfzs_8 hczs_9 hfzs_9 hczs_10 hfzs_10 hczs_11 hfzs_11
          refine hK.out _ _ ?_
          clear hK K
          refine done_ (done_of HT_.out (by kernel_rfl)) ?_
          clear HT_ HW_ hHeld
          rw [← HFL.out] at K9
          go_wp2
          go_meet
          case rel => exact ⟨g9, Ad, cd, (by first | rfl | (simp; done) | (simp [*]; done) | (simp [errW_none, errW_some] <;> rfl) | (simp [*, errW_none, errW_some] <;> rfl)), D, K6, K9, G9, N69, B⟩
          )
      case rest =>
        clear K6 B hx13 HFL hcutg0 qcg0 HYg0 HCg0 HEg0 Fg0 hcutg1 qcg1 HYg1 HCg1 HEg1 Fg1 hcutg2 qcg2 HYg2 HCg2 HEg2 Fg2 hcutg3 qcg3 HYg3 HCg3 HEg3 Fg3 hcutg5 qcg5 HYg5 HCg5 HEg5 Fg5 qag1 qbg1 HLg1 qag2 qbg2 HLg2 qag3 qbg3 HLg3 qag5 qbg5 HLg5 hcutgd qagd qbgd HYgd HCgd HEgd Fgd q13 q13i
        obtain ⟨g9, Ad, cd, rfl, D, K6, K9, G9, N69, B⟩ := hcut
        obtain ⟨io, hio, _, hszo, _⟩ := info_parts info5
        have qao : (0 : Int) ≤ (20 : Int) := (by omega)
        have qbo : (20 : Int) ≤ (n : Int) := HN0.out
        have qco : (n : Int) ≤ (l0.length : Int) := HN1.out
        have hcuto := cut_mid (P := Try.prog) 22 5 .i64 .i64 Try.underlying22 hio 1 hszo (some ad) l0.length c0 20 n qao qbo qco HC0.out
        have hro := Kd.C_mid (lo := (20 : Int).toNat) (hi := (n : Int).toNat) (c := c0) HR0.out (by omega) (by omega) HC0.out
        obtain ⟨Ao, hAo⟩ : ∃ Aq_, Aq_ = (if c0 = (20 : Int).toNat then (some ad) else ((some ad) : Option Addr).map (·.add ((20 : Int).toNat * 1))) := ⟨_, rfl⟩
        obtain ⟨co, hco⟩ : ∃ cq_, cq_ = c0 - (20 : Int).toNat := ⟨_, rfl⟩
        obtain ⟨yo, hyo⟩ : ∃ y_ : List Int, y_ = (l0.take (n : Int).toNat).drop (20 : Int).toNat := ⟨_, rfl⟩
        have hlo : yo.length = (n : Int).toNat - (20 : Int).toNat := by rw [hyo, List.length_drop, List.length_take]; omega
        rw [← hyo] at hro
        replace hro : Kd.C (Kd.int .u8) w Ao yo.length yo := by rw [hAo]; exact hro
        rw [← hlo, ← hAo, ← hco] at hcuto
        have HYo := Aside0.mk hro
        have HCo := Aside0.mk (show yo.length ≤ co from by have := HC0.out; rw [hlo, hco]; omega)
        have HEo := Aside0.mk hyo
        have HLo := Aside0.mk hlo
        clear hro hio hszo hco hyo hlo hAo
        replace qao := eq_true qao
        replace qbo := eq_true qbo
        replace qco := eq_true qco
        obtain ⟨⟨x0, x1, x2, x3, x4, x5, x6, x7, x8, x9, s, ok⟩, A, H⟩ := Option.bind_eq_some_iff.mp HF.out
        have FIN := Aside0.mk H
        have HA : Aside0 (spec_l11ReadOptions.f k t0 t1 t2 t3 fl t5 0 false 0 false d yo = some (x0, x1, x2, x3, x4, x5, x6, x7, x8, x9, s, ok)) := ⟨by rw [HEo.out]; exact A⟩
        clear H A HF
        go_upto_region 13 with (fail)
        refine start_ (n := 10) (S := fun w' => w'.cell? ⟨g9, 0, none⟩ = some (.int .i64 t0) ∧ w'.cell? ⟨g9, 1, none⟩ = some (.int .i64 t1) ∧ w'.cell? ⟨g9, 2, none⟩ = some (.int .i64 t2) ∧ w'.cell? ⟨g9, 3, none⟩ = some (.int .i64 t3) ∧ w'.cell? ⟨g9, 4, none⟩ = some (.int .i64 fl) ∧ w'.cell? ⟨g9, 5, none⟩ = some (.int .i64 t5) ∧ w'.cell? ⟨g9, 6, none⟩ = some (.int .i64 0) ∧ w'.cell? ⟨g9, 7, none⟩ = some (.bool false) ∧ w'.cell? ⟨g9, 8, none⟩ = some (.int .i64 0) ∧ w'.cell? ⟨g9, 9, none⟩ = some (.bool false) ∧ w'.cell? ⟨g9, 10, none⟩ = some (.slice none 0 0) ∧ w'.cell? ⟨g9, 11, none⟩ = some (.slice Ad d.length cd)) (ds := [8]) #[false, false, false, false, false, false, false, false, false, false] (by kernel_rfl) rfl rfl ⟨(blk_cell K9.out 0).trans rfl, (blk_cell K9.out 1).trans rfl, (blk_cell K9.out 2).trans rfl, (blk_cell K9.out 3).trans rfl, (blk_cell K9.out 4).trans rfl, (blk_cell K9.out 5).trans rfl, (blk_cell K9.out 6).trans rfl, (blk_cell K9.out 7).trans rfl, (blk_cell K9.out 8).trans rfl, (blk_cell K9.out 9).trans rfl, (blk_cell K9.out 10).trans rfl, (blk_cell K9.out 11).trans rfl⟩ (fun hHeld => ?_)
        refine with_tabW spec_DecodeSegment.tab13 spec_DecodeSegment.bits13 (fun HT_ HW_ => ?_)
        replace B := Aside0.mk (below_drew1 B.out)
        replace K6 := Aside0.mk (blk_drew K6.out)
        replace K9 := Aside0.mk (blk_drew K9.out)
        replace D := Aside0.mk (Kd.R_drew D.out)
        generalize wc.drew = q0 at B K6 K9 D hHeld ⊢
        refine pure_ (i := 1) (N := some 76) (v := ?_) (a' := ?_) #[false, true, false, false, false, false, false, false, false, false] rfl rfl (any_of HT_.out (by kernel_rfl)) (fun _ _ _ h => h) (Or.inl ⟨by rfl, ?_⟩) ?_ ?_
        rotate_left
        {
          intro w'
          go_simp
          with_reducible rfl
        }
        rotate_left
        {
          simp only [Act.put, List.setIfInBounds_toArray, List.set_cons_zero, List.set_cons_succ, i64_w, i32_w]
          rfl
        }
        refine pure_ (i := 2) (N := some 77) (v := ?_) (a' := ?_) #[false, true, true, false, false, false, false, false, false, false] rfl rfl (any_of HT_.out (by kernel_rfl)) (fun _ _ _ h => h) (Or.inl ⟨by rfl, ?_⟩) ?_ ?_
        rotate_left
        {
          intro w'
          go_simp
          with_reducible rfl
        }
        rotate_left
        {
          simp only [Act.put, List.setIfInBounds_toArray, List.set_cons_zero, List.set_cons_succ, i64_w, i32_w]
          rfl
        }
        refine pure_ (i := 3) (N := some 78) (v := ?_) (a' := ?_) #[false, true, true, true, false, false, false, false, false, false] rfl rfl (any_of HT_.out (by kernel_rfl)) (fun _ _ _ h => h) (Or.inl ⟨by rfl, ?_⟩) ?_ ?_
        rotate_left
        {
          intro w'
          go_simp
          with_reducible rfl
        }
        rotate_left
        {
          simp only [Act.put, List.setIfInBounds_toArray, List.set_cons_zero, List.set_cons_succ, i64_w, i32_w]
          rfl
        }
        refine take_ (i := 0) (N := some 75) (v := ?_) (a' := ?_) #[true, true, true, true, false, false, false, false, false, false] rfl rfl (take_ofW HT_.out HW_.out (by kernel_rfl)) (fun _ _ _ h => h) (Or.inl ⟨by rfl, ?_⟩) hHeld ?_ ?_
        rotate_left
        {
          rintro w' ⟨s0, s1, s2, s3, s4, s5, s6, s7, s8, s9, s10, s11⟩
          go_simp
          with_reducible rfl
        }
        rotate_left
        {
          simp only [Act.put, List.setIfInBounds_toArray, List.set_cons_zero, List.set_cons_succ, i64_w, i32_w]
          rfl
        }
        refine one_ (i := 4) (N := some 79) #[true, true, true, true, true, false, false, false, false, false] rfl rfl (one_of HT_.out (by kernel_rfl)) (by decide) (fun K hK => ?_)
        refine goes_ Try.func27 (by kernel_rfl) rfl #[.agg #[.int .i64 t0, .int .i64 t1, .int .i64 t2, .int .i64 t3, .int .i64 fl, .int .i64 t5, .int .i64 0, .bool false, .int .i64 0, .bool false, .slice none 0 0, .slice Ad d.length cd], .slice Ao yo.length co] (by rfl) rfl rfl wT ?_
        with_reducible refine (spec_l11ReadOptions.calls k t0 t1 t2 t3 fl t5 0 false 0 false Ad cd d Ao co yo x0 x1 x2 x3 x4 x5 x6 x7 x8 x9 s ok _ ?side1 ?side2 ?side3 ?side4 HA.out).mono ?_
        (case side1 => exact (Kd.R_reads' D.out).2.2)
        (case side2 => exact (Kd.R_reads' D.out).2.1)
        (case side3 => exact Kd.C_below HYo.out B.out)
        (case side4 => exact HCo.out)
        rintro e q1 ⟨Avs, nvs, cvs, rfl, hs, hb⟩
        refine ⟨_, rfl, ?_⟩
        replace K9 := Aside0.mk (blk_below K9.out hb)
        replace K6 := Aside0.mk (blk_below K6.out hb)
        replace D := Aside0.mk (Kd.R_below D.out hb)
        have S : Aside0 (ok = true → Kd.R k60 60 q1 w.heap.size (fun k_ => w.heap.size ≤ k_) (.slice Avs nvs cvs) s) := ⟨fun h_ => Kd.R_mono (Kd.R_lower (hs h_) B.out.size) (fun _ hk => Nat.le_trans B.out.size hk)⟩
        replace B := Aside0.mk (below_step B.out hb)
        clear hb hs hHeld
        refine hK.out _ _ ⟨(blk_cell K9.out 0).trans rfl, (blk_cell K9.out 1).trans rfl, (blk_cell K9.out 2).trans rfl, (blk_cell K9.out 3).trans rfl, (blk_cell K9.out 4).trans rfl, (blk_cell K9.out 5).trans rfl, (blk_cell K9.out 6).trans rfl, (blk_cell K9.out 7).trans rfl, (blk_cell K9.out 8).trans rfl, (blk_cell K9.out 9).trans rfl, (blk_cell K9.out 10).trans rfl, (blk_cell K9.out 11).trans rfl⟩ (fun hHeld => ?_)
        clear hK K
        refine norm_ (a' := ?_) ?_ ?_
        rotate_left
        {
          show Act.put _ (some 79) _ = _
          simp only [Act.put, List.setIfInBounds_toArray, List.set_cons_zero, List.set_cons_succ, i64_w, i32_w]
          rfl
        }
        refine pure_ (i := 5) (N := some 74) (v := ?_) (a' := ?_) #[true, true, true, true, true, true, false, false, false, false] rfl rfl (any_of HT_.out (by kernel_rfl)) (fun _ _ _ h => h) (Or.inl ⟨by rfl, ?_⟩) ?_ ?_
        rotate_left
        {
          intro w'
          go_simp
          with_reducible rfl
        }
        rotate_left
        {
          simp only [Act.put, List.setIfInBounds_toArray, List.set_cons_zero, List.set_cons_succ, i64_w, i32_w]
          rfl
        }
        refine pure_ (i := 6) (N := some 80) (v := ?_) (a' := ?_) #[true, true, true, true, true, true, true, false, false, false] rfl rfl (any_of HT_.out (by kernel_rfl)) (fun _ _ _ h => h) (Or.inl ⟨by rfl, ?_⟩) ?_ ?_
        rotate_left
        {
          intro w'
          go_simp
          with_reducible rfl
        }
        rotate_left
        {
          simp only [Act.put, List.setIfInBounds_toArray, List.set_cons_zero, List.set_cons_succ, i64_w, i32_w]
          rfl
        }
        refine pure_ (i := 7) (N := some 81) (v := ?_) (a' := ?_) #[true, true, true, true, true, true, true, true, false, false] rfl rfl (any_of HT_.out (by kernel_rfl)) (fun _ _ _ h => h) (Or.inl ⟨by rfl, ?_⟩) ?_ ?_
        rotate_left
        {
          intro w'
          go_simp
          with_reducible rfl
        }
        rotate_left
        {
          simp only [Act.put, List.setIfInBounds_toArray, List.set_cons_zero, List.set_cons_succ, i64_w, i32_w]
          rfl
        }
        refine last_ (i := 8) (N := none) #[true, true, true, true, true, true, true, true, true, false] rfl rfl (one_of HT_.out (by kernel_rfl)) (by decide) (fun K hK => ?_)
        obtain ⟨⟨hczs_0, hczs_1, hczs_2, hczs_3, hczs_4, hczs_5, hczs_6, hczs_7, hczs_8, hczs_9, hczs_10, hczs_11⟩, hfzs_0, hfzs_1, hfzs_2, hfzs_3, hfzs_4, hfzs_5, hfzs_6, hfzs_7, hfzs_8, hfzs_9, hfzs_10, hfzs_11⟩ := cells12 K9.out
        refine skip_ (w1 := put12 q1 g9 (.int .i64 x0) (.int .i64 x1) (.int .i64 x2) (.int .i64 x3) (.int .i64 x4) (.int .i64 x5) (.int .i64 x6) (.bool x7) (.int .i64 x8) (.bool x9) (.slice Avs nvs cvs) (.slice Ad d.length cd)) (by rfl) rfl ?_ ?_
        {
          first | (go_simp; done) | (go_simp; rfl)
        }
        generalize hu_ : put12 q1 g9 (.int .i64 x0) (.int .i64 x1) (.int .i64 x2) (.int .i64 x3) (.int .i64 x4) (.int .i64 x5) (.int .i64 x6) (.bool x7) (.int .i64 x8) (.bool x9) (.slice Avs nvs cvs) (.slice Ad d.length cd) = q2
        replace D : Aside0 (Kd.R (Kd.int .u8) 5 q2 w.heap.size (fun k_ => w.heap.size ≤ k_) (.slice Ad d.length cd) d) := ⟨by rw [← hu_]; exact Kd.R_mono (Kd.R_step (Kd.R_types D.out K9.out (by decide)) (fun _ hk _ => far12 hk.2)) (fun _ hk => hk.1)⟩
        replace S : Aside0 (ok = true → Kd.R k60 60 q2 w.heap.size (fun k_ => w.heap.size ≤ k_) (.slice Avs nvs cvs) s) := ⟨fun h_ => by rw [← hu_]; exact Kd.R_mono (Kd.R_step (Kd.R_types (S.out h_) K9.out (by decide)) (fun _ hk _ => far12 hk.2)) (fun _ hk => hk.1)⟩
        replace K6 : Aside0 (q2.heap[g6]? = some (.cells #[.int .i64 0, .int .i64 0, .int .i64 0, .int .i64 0, .int .i64 0, .int .i64 0, .int .i64 0, .bool false, .int .i64 0, .bool false, .slice none 0 0, .slice none 0 0] 25 (0, 0))) := ⟨by rw [← hu_]; exact (far12 N69.out).trans K6.out⟩
        replace K9 : Aside0 (q2.heap[g9]? = some (.cells #[.int .i64 x0, .int .i64 x1, .int .i64 x2, .int .i64 x3, .int .i64 x4, .int .i64 x5, .int .i64 x6, .bool x7, .int .i64 x8, .bool x9, .slice Avs nvs cvs, .slice Ad d.length cd] 25 (0, 0))) := ⟨by rw [← hu_]; exact set12 K9.out⟩
        replace B : Aside0 (Below w.heap.size w q2) := ⟨by rw [← hu_]; refine below_set ?_ G9.out; refine below_set ?_ G9.out; refine below_set ?_ G9.out; refine below_set ?_ G9.out; refine below_set ?_ G9.out; refine below_set ?_ G9.out; refine below_set ?_ G9.out; refine below_set ?_ G9.out; refine below_set ?_ G9.out; refine below_set ?_ G9.out; refine below_set ?_ G9.out; refine below_set ?_ G9.out; exact B.out⟩
        clear hu_
        clear hczs_0 hfzs_0 hczs_1 hfzs_1 hczs_2 hfzs_2 hczs_3 hfzs_3 hczs_4 hfzs_4 hczs_5 hfzs_5 hczs_6 hfzs_6 hczs_7 hfzs_7 hczs_8 hfzs_8 hczs_9 hfzs_9 hczs_10 hfzs_10 hczs_11 hfzs_11
        refine hK.out _ _ ?_
        clear hK K
        refine pure_ (i := 9) (N := some 10) (v := ?_) (a' := ?_) #[true, true, true, true, true, true, true, true, true, true] rfl rfl (any_of HT_.out (by kernel_rfl)) (fun _ _ _ h => h) (Or.inl ⟨by rfl, ?_⟩) ?_ ?_
        rotate_left
        {
          intro w'
          go_simp
          with_reducible rfl
        }
        rotate_left
        {
          simp only [Act.put, List.setIfInBounds_toArray, List.set_cons_zero, List.set_cons_succ, i64_w, i32_w]
          rfl
        }
        refine done_ (done_of HT_.out (by kernel_rfl)) ?_
        clear HT_ HW_ hHeld
        cases ok with
        | false =>
          have H : some (0, 0, 0, 0, 0, 0, 0, false, 0, false, [], [], 10) = some (r0, r1, r2, r3, r4, r5, r6, r7, r8, r9, r10, r11, r12) := FIN.out
          clear FIN
          simp only [Option.some.injEq, Prod.mk.injEq] at H
          obtain ⟨rfl, rfl, rfl, rfl, rfl, rfl, rfl, rfl, rfl, rfl, rfl, rfl, rfl⟩ := H
          obtain ⟨⟨hcza_0, hcza_1, hcza_2, hcza_3, hcza_4, hcza_5, hcza_6, hcza_7, hcza_8, hcza_9, hcza_10, hcza_11⟩, hfza_0, hfza_1, hfza_2, hfza_3, hfza_4, hfza_5, hfza_6, hfza_7, hfza_8, hfza_9, hfza_10, hfza_11⟩ := cells12 K6.out
          go_wp2_with (first
              | ((with_reducible refine gate_store (t := 25) (p := 6) rfl ?_); refine store_event (t := 25) (p := 6) (v := ?vo_8) (w1 := put12 q2 g6 (.int .i64 0) (.int .i64 0) (.int .i64 0) (.int .i64 0) (.int .i64 0) (.int .i64 0) (.int .i64 0) (.bool false) (.int .i64 0) (.bool false) (.slice none 0 0) (.slice none 0 0)) ?hg ?ho ?hn ?hr ?_; (case ho => rfl); (case hg => rfl); (case hn => rfl); (case hr => first | (go_simp; done) | (go_simp; rfl)); intro vS hw; replace K6 : Aside0 (vS.heap[g6]? = some (.cells #[.int .i64 0, .int .i64 0, .int .i64 0, .int .i64 0, .int .i64 0, .int .i64 0, .int .i64 0, .bool false, .int .i64 0, .bool false, .slice none 0 0, .slice none 0 0] 25 (0, 0))) := ⟨by rw [hw]; exact set12 K6.out⟩; replace B : Aside0 (Below w.heap.size w vS) := ⟨by rw [hw]; refine below_set ?_ G6.out; refine below_set ?_ G6.out; refine below_set ?_ G6.out; refine below_set ?_ G6.out; refine below_set ?_ G6.out; refine below_set ?_ G6.out; refine below_set ?_ G6.out; refine below_set ?_ G6.out; refine below_set ?_ G6.out; refine below_set ?_ G6.out; refine below_set ?_ G6.out; refine below_set ?_ G6.out; exact B.out⟩; clear hw; skip))
          refine bodyPost_ret (results_ct rfl _ _ g6 25 #[.int .i64 0, .int .i64 0, .int .i64 0, .int .i64 0, .int .i64 0, .int .i64 0, .int .i64 0, .bool false, .int .i64 0, .bool false, .slice none 0 0, .slice none 0 0] (0, 0) _ rfl K6.out Try.underlying25 rfl (by kernel_rfl)) rfl ?_
          exact ⟨.slice none 0 0, .slice none 0 0, (by first | rfl | (simp; done) | (simp [*]; done) | (simp [errW_none, errW_some] <;> rfl) | (simp [*, errW_none, errW_some] <;> rfl)), Kd.R_nil _ _ _ _ _, Kd.R_nil _ _ _ _ _, B.out⟩
        | true =>
          have H : some (x0, x1, x2, x3, x4, x5, x6, x7, x8, x9, s, d, 0) = some (r0, r1, r2, r3, r4, r5, r6, r7, r8, r9, r10, r11, r12) := FIN.out
          clear FIN
          simp only [Option.some.injEq, Prod.mk.injEq] at H
          obtain ⟨rfl, rfl, rfl, rfl, rfl, rfl, rfl, rfl, rfl, rfl, rfl, rfl, rfl⟩ := H
          replace S := Aside0.mk (S.out rfl)
          obtain rfl : nvs = s.length := (Kd.R_reads' S.out).1
          obtain ⟨⟨hcza_0, hcza_1, hcza_2, hcza_3, hcza_4, hcza_5, hcza_6, hcza_7, hcza_8, hcza_9, hcza_10, hcza_11⟩, hfza_0, hfza_1, hfza_2, hfza_3, hfza_4, hfza_5, hfza_6, hfza_7, hfza_8, hfza_9, hfza_10, hfza_11⟩ := cells12 K6.out
          obtain ⟨⟨hczs_0, hczs_1, hczs_2, hczs_3, hczs_4, hczs_5, hczs_6, hczs_7, hczs_8, hczs_9, hczs_10, hczs_11⟩, hfzs_0, hfzs_1, hfzs_2, hfzs_3, hfzs_4, hfzs_5, hfzs_6, hfzs_7, hfzs_8, hfzs_9, hfzs_10, hfzs_11⟩ := cells12 K9.out
          go_wp2_with (first
              | ((with_reducible refine gate_store (t := 25) (p := 6) rfl ?_); refine store_event (t := 25) (p := 6) (v := ?vo_9) (w1 := put12 q2 g6 (.int .i64 x0) (.int .i64 x1) (.int .i64 x2) (.int .i64 x3) (.int .i64 x4) (.int .i64 x5) (.int .i64 x6) (.bool x7) (.int .i64 x8) (.bool x9) (.slice Avs s.length cvs) (.slice Ad d.length cd)) ?hg ?ho ?hn ?hr ?_; (case ho => rfl); (case hg => rfl); (case hn => rfl); (case hr => first | (go_simp; done) | (go_simp; rfl)); intro vS hw; replace S : Aside0 (Kd.R k60 60 vS w.heap.size (fun k_ => w.heap.size ≤ k_) (.slice Avs s.length cvs) s) := ⟨by rw [hw]; exact Kd.R_mono (Kd.R_step (Kd.R_types S.out K6.out (by decide)) (fun _ hk _ => far12 hk.2)) (fun _ hk => hk.1)⟩; replace D : Aside0 (Kd.R (Kd.int .u8) 5 vS w.heap.size (fun k_ => w.heap.size ≤ k_) (.slice Ad d.length cd) d) := ⟨by rw [hw]; exact Kd.R_mono (Kd.R_step (Kd.R_types D.out K6.out (by decide)) (fun _ hk _ => far12 hk.2)) (fun _ hk => hk.1)⟩; replace K6 : Aside0 (vS.heap[g6]? = some (.cells #[.int .i64 x0, .int .i64 x1, .int .i64 x2, .int .i64 x3, .int .i64 x4, .int .i64 x5, .int .i64 x6, .bool x7, .int .i64 x8, .bool x9, .slice Avs s.length cvs, .slice Ad d.length cd] 25 (0, 0))) := ⟨by rw [hw]; exact set12 K6.out⟩; replace B : Aside0 (Below w.heap.size w vS) := ⟨by rw [hw]; refine below_set ?_ G6.out; refine below_set ?_ G6.out; refine below_set ?_ G6.out; refine below_set ?_ G6.out; refine below_set ?_ G6.out; refine below_set ?_ G6.out; refine below_set ?_ G6.out; refine below_set ?_ G6.out; refine below_set ?_ G6.out; refine below_set ?_ G6.out; refine below_set ?_ G6.out; refine below_set ?_ G6.out; exact B.out⟩; clear hw; skip))
          refine bodyPost_ret (results_ct rfl _ _ g6 25 #[.int .i64 x0, .int .i64 x1, .int .i64 x2, .int .i64 x3, .int .i64 x4, .int .i64 x5, .int .i64 x6, .bool x7, .int .i64 x8, .bool x9, .slice Avs s.length cvs, .slice Ad d.length cd] (0, 0) _ rfl K6.out Try.underlying25 rfl (by kernel_rfl)) rfl ?_
          exact ⟨.slice Avs s.length cvs, .slice Ad d.length cd, (by first | rfl | (simp; done) | (simp [*]; done) | (simp [errW_none, errW_some] <;> rfl) | (simp [*, errW_none, errW_some] <;> rfl)), S.out, D.out, B.out⟩
theorem spec_DecodeSegment.walk (k : Nat) (A0 : Option Addr) (c0 : Nat) (l0 : List Int) (a1 a2 : Int) (r0 : Int) (r1 : Int) (r2 : Int) (r3 : Int) (r4 : Int) (r5 : Int) (r6 : Int) (r7 : Bool) (r8 : Int) (r9 : Bool) (r10 : List (S60)) (r11 : List Int) (r12 : Int) (w : World) (hr0 : Kd.C (Kd.int .u8) w A0 l0.length l0) (hc0 : l0.length ≤ c0) (h : spec_DecodeSegment.f k l0 a1 a2 = some (r0, r1, r2, r3, r4, r5, r6, r7, r8, r9, r10, r11, r12)) :
    Calls Try.prog 5 #[.slice A0 l0.length c0, .int .i64 a1, .int .i64 a2] w (spec_DecodeSegment.Post r0 r1 r2 r3 r4 r5 r6 r7 r8 r9 r10 r11 r12 w) := by
  by_cases hG : spec_DecodeSegment.Good k l0 a1 a2
  · exact spec_DecodeSegment.main k A0 c0 l0 a1 a2 r0 r1 r2 r3 r4 r5 r6 r7 r8 r9 r10 r11 r12 w hr0 hc0 h hG
  · exact spec_DecodeSegment.early k A0 c0 l0 a1 a2 r0 r1 r2 r3 r4 r5 r6 r7 r8 r9 r10 r11 r12 w hr0 hc0 h hG
theorem spec_DecodeSegment.calls (k : Nat) (A0 : Option Addr) (c0 : Nat) (l0 : List Int) (a1 a2 : Int) (r0 : Int) (r1 : Int) (r2 : Int) (r3 : Int) (r4 : Int) (r5 : Int) (r6 : Int) (r7 : Bool) (r8 : Int) (r9 : Bool) (r10 : List (S60)) (r11 : List Int) (r12 : Int) (w : World) (hr0 : Kd.C (Kd.int .u8) w A0 l0.length l0) (hc0 : l0.length ≤ c0) (h : spec_DecodeSegment.f k l0 a1 a2 = some (r0, r1, r2, r3, r4, r5, r6, r7, r8, r9, r10, r11, r12)) :
    Calls Try.prog 5 #[.slice A0 l0.length c0, .int .i64 a1, .int .i64 a2] w fun e w' => ∃ v10_ v11_ : Value, e = .returned (.tuple #[.agg #[.int .i64 r0, .int .i64 r1, .int .i64 r2, .int .i64 r3, .int .i64 r4, .int .i64 r5, .int .i64 r6, .bool r7, .int .i64 r8, .bool r9, v10_, v11_], .int .i64 r12]) ∧ Kd.R k60 60 w' w.heap.size (fun k_ => w.heap.size ≤ k_) v10_ r10 ∧ Kd.R (Kd.int .u8) 5 w' w.heap.size (fun k_ => w.heap.size ≤ k_) v11_ r11 ∧ Below w.heap.size w w' := (spec_DecodeSegment.walk k A0 c0 l0 a1 a2 r0 r1 r2 r3 r4 r5 r6 r7 r8 r9 r10 r11 r12 w hr0 hc0 h).mono fun _ _ h => h


end Go.Proofs.Ytfllcmeakcbiaaa.PFnExactDecodeSegment
