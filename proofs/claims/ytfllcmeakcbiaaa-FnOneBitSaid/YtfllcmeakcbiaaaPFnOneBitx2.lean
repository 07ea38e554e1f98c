-- Written for this claim by a program of this session (wip/mkprint.py: the print, turned at a few places). Not trusted: Lean checks it.
import Derived.Test.YtfllcmeakcbiaaaPFnOneBitx0
import Derived.Test.YtfllcmeakcbiaaaPFnOneBitx1
namespace Go.Proofs.Ytfllcmeakcbiaaa.PFnOneBit
open Go.RowKit Go.Proofs.YtfllcmeakcbiaaaW.PrintWords Go.Proofs.YtfllcmeakcbiaaaW.PrintLast Go.Proofs.YtfllcmeakcbiaaaW.PrintMore
attribute [local go_sem] max2_int min2_int max_two min_two max_three min_three max_four min_four   -- for this text's walks alone
set_option linter.unusedVariables false
set_option linter.unusedSimpArgs false

/-! ### impl_DecodeSegment: function 7 -/
/-! ### impl_DecodeSegment: function 7, walked by hand -/
def impl_DecodeSegment.t (k : Nat) (b : List Int) (n : Int) : Option (Int × Int × Int × Int × Int × Int × Int × Bool × Int × Bool × List (S60) × List Int × Int) := none
def impl_DecodeSegment.s (k : Nat) (b : List Int) (src dst n : Int) : Option (Int × Int × Int × Int × Int × Int × Int × Bool × Int × Bool × List (S60) × List Int × Int) := if n < 20 then some (0, 0, 0, 0, 0, 0, 0, false, 0, false, [], [], 5) else if (b.length : Int) < n then some (0, 0, 0, 0, 0, 0, 0, false, 0, false, [], [], 5) else (impl_FalseHead.f k src dst 6 (b.length : Int)).bind fun t => if t.length + b.length < 140737488355328 then ((impl_Checksum.f k (t ++ b)).bind fun c => if c = 0 then (impl_DecodeSegment.t k b n) else some (0, 0, 0, 0, 0, 0, 0, false, 0, false, [], [], 3)) else none
def impl_DecodeSegment.g (k : Nat) (b : List Int) (src dst : Int) : Option (Int × Int × Int × Int × Int × Int × Int × Bool × Int × Bool × List (S60) × List Int × Int) := if (b.length : Int) < 20 then some (0, 0, 0, 0, 0, 0, 0, false, 0, false, [], [], 2) else if 65515 < (b.length : Int) then some (0, 0, 0, 0, 0, 0, 0, false, 0, false, [], [], 7) else impl_DecodeSegment.s k b src dst (wrap64 ((wrap64 ((rd b 12) / 16)) * 4))
def impl_DecodeSegment.f (k : Nat) (b : List Int) (src dst : Int) : Option (Int × Int × Int × Int × Int × Int × Int × Bool × Int × Bool × List (S60) × List Int × Int) := (impl_isAddr.f src).bind fun p => if p = true then ((impl_isAddr.f dst).bind fun q => if q = true then (impl_DecodeSegment.g k b src dst) else some (0, 0, 0, 0, 0, 0, 0, false, 0, false, [], [], 1)) else some (0, 0, 0, 0, 0, 0, 0, false, 0, false, [], [], 1)
def impl_DecodeSegment.Post (r0 : Int) (r1 : Int) (r2 : Int) (r3 : Int) (r4 : Int) (r5 : Int) (r6 : Int) (r7 : Bool) (r8 : Int) (r9 : Bool) (aa : List (S60)) (ab : List Int) (ac : Int) (w : World) (e : Ending) (w' : World) : Prop := ∃ v10_ v11_ : Value, e = .returned (.tuple #[.agg #[.int .i64 r0, .int .i64 r1, .int .i64 r2, .int .i64 r3, .int .i64 r4, .int .i64 r5, .int .i64 r6, .bool r7, .int .i64 r8, .bool r9, v10_, v11_], .int .i64 ac]) ∧ Kd.R k60 60 w' w.heap.size (fun k_ => w.heap.size ≤ k_) v10_ aa ∧ Kd.R (Kd.int .u8) 5 w' w.heap.size (fun k_ => w.heap.size ≤ k_) v11_ ab ∧ Below w.heap.size w w'
theorem impl_DecodeSegment.t.mono : ∀ y0 y1 k, LeO (impl_DecodeSegment.t k y0 y1) (impl_DecodeSegment.t (k + 1) y0 y1) := by
  intro y0 y1 k
  unfold impl_DecodeSegment.t
  repeat' first
    | (with_reducible exact LeO.refl _)
    | (with_reducible exact LeO.none _)
    | (with_reducible refine LeO.ite ?_ ?_)
    | (with_reducible refine LeO.bind ?_ (fun _ => ?_))
    | exact LeO.none _
    | refine LeO.ite ?_ ?_
    | refine LeO.bind ?_ (fun _ => ?_)
theorem impl_DecodeSegment.s.mono : ∀ y0 y1 y2 y3 k, LeO (impl_DecodeSegment.s k y0 y1 y2 y3) (impl_DecodeSegment.s (k + 1) y0 y1 y2 y3) := by
  intro y0 y1 y2 y3 k
  unfold impl_DecodeSegment.s
  repeat' first
    | (with_reducible exact impl_FalseHead.mono _ _ _ _ _)
    | (with_reducible exact impl_Checksum.mono _ _)
    | (with_reducible exact impl_DecodeSegment.t.mono _ _ _)
    | (with_reducible exact LeO.refl _)
    | (with_reducible exact LeO.none _)
    | (with_reducible refine LeO.ite ?_ ?_)
    | (with_reducible refine LeO.bind ?_ (fun _ => ?_))
    | exact impl_FalseHead.mono _ _ _ _ _
    | exact impl_Checksum.mono _ _
    | exact impl_DecodeSegment.t.mono _ _ _
    | exact LeO.none _
    | refine LeO.ite ?_ ?_
    | refine LeO.bind ?_ (fun _ => ?_)
theorem impl_DecodeSegment.g.mono : ∀ y0 y1 y2 k, LeO (impl_DecodeSegment.g k y0 y1 y2) (impl_DecodeSegment.g (k + 1) y0 y1 y2) := by
  intro y0 y1 y2 k
  unfold impl_DecodeSegment.g
  repeat' first
    | (with_reducible exact impl_DecodeSegment.s.mono _ _ _ _ _)
    | (with_reducible exact LeO.refl _)
    | (with_reducible exact LeO.none _)
    | (with_reducible refine LeO.ite ?_ ?_)
    | (with_reducible refine LeO.bind ?_ (fun _ => ?_))
    | exact impl_DecodeSegment.s.mono _ _ _ _ _
    | exact LeO.none _
    | refine LeO.ite ?_ ?_
    | refine LeO.bind ?_ (fun _ => ?_)
theorem impl_DecodeSegment.mono : ∀ y0 y1 y2 k, LeO (impl_DecodeSegment.f k y0 y1 y2) (impl_DecodeSegment.f (k + 1) y0 y1 y2) := by
  intro y0 y1 y2 k
  unfold impl_DecodeSegment.f
  repeat' first
    | (with_reducible exact impl_DecodeSegment.g.mono _ _ _ _)
    | (with_reducible exact LeO.refl _)
    | (with_reducible exact LeO.none _)
    | (with_reducible refine LeO.ite ?_ ?_)
    | (with_reducible refine LeO.bind ?_ (fun _ => ?_))
    | exact impl_DecodeSegment.g.mono _ _ _ _
    | exact LeO.none _
    | refine LeO.ite ?_ ?_
    | refine LeO.bind ?_ (fun _ => ?_)
set_option maxHeartbeats 60000000 in
set_option maxRecDepth 100000 in
theorem impl_DecodeSegment.early (k : Nat) (A0 : Option Addr) (c0 : Nat) (l0 : List Int) (a1 a2 : Int) (r0 : Int) (r1 : Int) (r2 : Int) (r3 : Int) (r4 : Int) (r5 : Int) (r6 : Int) (r7 : Bool) (r8 : Int) (r9 : Bool) (aa : List (S60)) (ab : List Int) (ac : Int) (w : World) (hr0 : Kd.C (Kd.int .u8) w A0 l0.length l0) (hc0 : l0.length ≤ c0) (h : impl_DecodeSegment.f k l0 a1 a2 = some (r0, r1, r2, r3, r4, r5, r6, r7, r8, r9, aa, ab, ac)) :
    Calls Try.prog 7 #[.slice A0 l0.length c0, .int .i64 a1, .int .i64 a2] w (impl_DecodeSegment.Post r0 r1 r2 r3 r4 r5 r6 r7 r8 r9 aa ab ac w) := by
  have hu25 := Try.underlying25
  have hu60 := Try.underlying60
  have HR0 := Aside0.mk hr0
  have ae := Aside0.mk hc0
  clear hr0 hc0
  have H' := Aside0.mk h
  clear h
  have B := Aside0.mk (Below.refl w.heap.size w)
  go_enter Try.func7, Try.ntmps7
  go_upto_region 2 with (first
    | ((with_reducible refine gate_dst (N := 6) rfl ?_); refine box_event ?hg (N := 6) ?hd (cs := #[.int .i64 0, .int .i64 0, .int .i64 0, .int .i64 0, .int .i64 0, .int .i64 0, .int .i64 0, .bool false, .int .i64 0, .bool false, .slice none 0 0, .slice none 0 0]) (t := 25) ?hr ?_; (case hd => rfl); (case hg => rfl); (case hr => first | (go_simp; done) | (go_simp; rfl)); intro g6 hg v1 hbox hb; have K6 := Aside0.mk (show v1.heap[g6]? = some (.cells #[.int .i64 0, .int .i64 0, .int .i64 0, .int .i64 0, .int .i64 0, .int .i64 0, .int .i64 0, .bool false, .int .i64 0, .bool false, .slice none 0 0, .slice none 0 0] 25 (0, 0)) from hbox); have G6 := Aside0.mk ((by rw [hg]; exact B.out.size) : w.heap.size ≤ g6); skip; replace B := Aside0.mk (below_step B.out hb); clear hb hbox hg)
    | ((with_reducible refine gate_dst (N := 8) rfl ?_); refine box_event ?hg (N := 8) ?hd (cs := #[.int .i64 0, .int .i64 0, .int .i64 0, .int .i64 0, .int .i64 0, .int .i64 0, .int .i64 0, .bool false, .int .i64 0, .bool false, .slice none 0 0, .slice none 0 0]) (t := 25) ?hr ?_; (case hd => rfl); (case hg => rfl); (case hr => first | (go_simp; done) | (go_simp; rfl)); intro g8 hg v2 hbox hb; have K8 := Aside0.mk (show v2.heap[g8]? = some (.cells #[.int .i64 0, .int .i64 0, .int .i64 0, .int .i64 0, .int .i64 0, .int .i64 0, .int .i64 0, .bool false, .int .i64 0, .bool false, .slice none 0 0, .slice none 0 0] 25 (0, 0)) from hbox); have G8 := Aside0.mk ((by rw [hg]; exact B.out.size) : w.heap.size ≤ g8); have N68 := Aside0.mk ((by rw [hg]; exact Nat.ne_of_lt (blk_lt K6.out)) : g6 ≠ g8); replace B := Aside0.mk (below_step B.out hb); replace K6 := Aside0.mk (blk_below K6.out hb); clear hb hbox hg)
    | ((with_reducible refine gate_dst (N := 9) rfl ?_); refine box_event ?hg (N := 9) ?hd (cs := #[.int .i64 0, .int .i64 0, .int .i64 0, .int .i64 0, .int .i64 0, .int .i64 0, .int .i64 0, .bool false, .int .i64 0, .bool false, .slice none 0 0, .slice none 0 0]) (t := 25) ?hr ?_; (case hd => rfl); (case hg => rfl); (case hr => first | (go_simp; done) | (go_simp; rfl)); intro g9 hg v3 hbox hb; have K9 := Aside0.mk (show v3.heap[g9]? = some (.cells #[.int .i64 0, .int .i64 0, .int .i64 0, .int .i64 0, .int .i64 0, .int .i64 0, .int .i64 0, .bool false, .int .i64 0, .bool false, .slice none 0 0, .slice none 0 0] 25 (0, 0)) from hbox); have G9 := Aside0.mk ((by rw [hg]; exact B.out.size) : w.heap.size ≤ g9); have N69 := Aside0.mk ((by rw [hg]; exact Nat.ne_of_lt (blk_lt K6.out)) : g6 ≠ g9); have N89 := Aside0.mk ((by rw [hg]; exact Nat.ne_of_lt (blk_lt K8.out)) : g8 ≠ g9); replace B := Aside0.mk (below_step B.out hb); replace K6 := Aside0.mk (blk_below K6.out hb); replace K8 := Aside0.mk (blk_below K8.out hb); clear hb hbox hg))
  have H := H'.out
  clear H'
  unfold impl_DecodeSegment.f at H
  replace H := Option.bind_eq_some_iff.mp H; obtain ⟨p, Ap, H⟩ := H
  have P1 := Aside0.mk Ap
  clear Ap
  cases p with
  | false =>
    rw [if_neg (by decide)] at H
    simp only [Option.some.injEq, Prod.mk.injEq] at H
    obtain ⟨rfl, rfl, rfl, rfl, rfl, rfl, rfl, rfl, rfl, rfl, rfl, rfl, rfl⟩ := H
    go_wp2_with (first
        | ((with_reducible refine gate_callee (f := 28) rfl ?_); refine goesL_ (some 17) rfl rfl Try.func28 (by kernel_rfl) rfl #[.int .i64 a1] rfl wT ?_; (with_reducible refine (impl_isAddr.calls a1 false _ P1.out).mono ?_); rintro e v4 ⟨rfl, dd⟩; refine ⟨_, rfl, ?_⟩; have hb := dd.below; replace B := Aside0.mk (below_step B.out hb); replace K6 := Aside0.mk (blk_below K6.out hb); replace K8 := Aside0.mk (blk_below K8.out hb); replace K9 := Aside0.mk (blk_below K9.out hb); clear hb dd; obtain ⟨⟨hcza_0, hcza_1, hcza_2, hcza_3, hcza_4, hcza_5, hcza_6, hcza_7, hcza_8, hcza_9, hcza_10, hcza_11⟩, hfza_0, hfza_1, hfza_2, hfza_3, hfza_4, hfza_5, hfza_6, hfza_7, hfza_8, hfza_9, hfza_10, hfza_11⟩ := cells12 K6.out; obtain ⟨⟨hczb_0, hczb_1, hczb_2, hczb_3, hczb_4, hczb_5, hczb_6, hczb_7, hczb_8, hczb_9, hczb_10, hczb_11⟩, hfzb_0, hfzb_1, hfzb_2, hfzb_3, hfzb_4, hfzb_5, hfzb_6, hfzb_7, hfzb_8, hfzb_9, hfzb_10, hfzb_11⟩ := cells12 K9.out)
        | ((with_reducible refine gate_store (t := 25) (p := 6) rfl ?_); refine store_event (t := 25) (p := 6) (v := ?vo_1) (w1 := put12 v4 g6 (.int .i64 0) (.int .i64 0) (.int .i64 0) (.int .i64 0) (.int .i64 0) (.int .i64 0) (.int .i64 0) (.bool false) (.int .i64 0) (.bool false) (.slice none 0 0) (.slice none 0 0)) ?hg ?ho ?hn ?hr ?_; (case ho => rfl); (case hg => rfl); (case hn => rfl); (case hr => first | (go_simp; done) | (go_simp; rfl)); intro vS hw; replace K6 : Aside0 (vS.heap[g6]? = some (.cells #[.int .i64 0, .int .i64 0, .int .i64 0, .int .i64 0, .int .i64 0, .int .i64 0, .int .i64 0, .bool false, .int .i64 0, .bool false, .slice none 0 0, .slice none 0 0] 25 (0, 0))) := ⟨by rw [hw]; exact set12 K6.out⟩; replace B : Aside0 (Below w.heap.size w vS) := ⟨by rw [hw]; refine below_set ?_ G6.out; refine below_set ?_ G6.out; refine below_set ?_ G6.out; refine below_set ?_ G6.out; refine below_set ?_ G6.out; refine below_set ?_ G6.out; refine below_set ?_ G6.out; refine below_set ?_ G6.out; refine below_set ?_ G6.out; refine below_set ?_ G6.out; refine below_set ?_ G6.out; refine below_set ?_ G6.out; exact B.out⟩; clear hw; skip))
    refine bodyPost_ret (results_ct rfl _ _ g6 25 #[.int .i64 0, .int .i64 0, .int .i64 0, .int .i64 0, .int .i64 0, .int .i64 0, .int .i64 0, .bool false, .int .i64 0, .bool false, .slice none 0 0, .slice none 0 0] (0, 0) _ rfl K6.out Try.underlying25 rfl (by kernel_rfl)) rfl ?_
    exact ⟨.slice none 0 0, .slice none 0 0, (by first | rfl | (simp; done) | (simp [*]; done) | (simp [errW_none, errW_some] <;> rfl) | (simp [*, errW_none, errW_some] <;> rfl)), Kd.R_nil _ _ _ _ _, Kd.R_nil _ _ _ _ _, B.out⟩
  | true =>
    rw [if_pos rfl] at H
    replace H := Option.bind_eq_some_iff.mp H; obtain ⟨q, Aq, H⟩ := H
    have P2 := Aside0.mk Aq
    clear Aq
    cases q with
    | false =>
      rw [if_neg (by decide)] at H
      simp only [Option.some.injEq, Prod.mk.injEq] at H
      obtain ⟨rfl, rfl, rfl, rfl, rfl, rfl, rfl, rfl, rfl, rfl, rfl, rfl, rfl⟩ := H
      go_wp2_with (first
          | ((with_reducible refine gate_callee (f := 28) rfl ?_); refine goesL_ (some 17) rfl rfl Try.func28 (by kernel_rfl) rfl #[.int .i64 a1] rfl wT ?_; (with_reducible refine (impl_isAddr.calls a1 true _ P1.out).mono ?_); rintro e v4 ⟨rfl, dd⟩; refine ⟨_, rfl, ?_⟩; have hb := dd.below; replace B := Aside0.mk (below_step B.out hb); replace K6 := Aside0.mk (blk_below K6.out hb); replace K8 := Aside0.mk (blk_below K8.out hb); replace K9 := Aside0.mk (blk_below K9.out hb); clear hb dd; skip)
          | (go_at_call 28; (with_reducible refine (impl_isAddr.calls a2 false _ P2.out).mono ?_); rintro e v5 ⟨rfl, dd⟩; have hb := dd.below; replace B := Aside0.mk (below_step B.out hb); replace K6 := Aside0.mk (blk_below K6.out hb); replace K8 := Aside0.mk (blk_below K8.out hb); replace K9 := Aside0.mk (blk_below K9.out hb); clear hb dd; obtain ⟨⟨hcza_0, hcza_1, hcza_2, hcza_3, hcza_4, hcza_5, hcza_6, hcza_7, hcza_8, hcza_9, hcza_10, hcza_11⟩, hfza_0, hfza_1, hfza_2, hfza_3, hfza_4, hfza_5, hfza_6, hfza_7, hfza_8, hfza_9, hfza_10, hfza_11⟩ := cells12 K6.out; obtain ⟨⟨hczb_0, hczb_1, hczb_2, hczb_3, hczb_4, hczb_5, hczb_6, hczb_7, hczb_8, hczb_9, hczb_10, hczb_11⟩, hfzb_0, hfzb_1, hfzb_2, hfzb_3, hfzb_4, hfzb_5, hfzb_6, hfzb_7, hfzb_8, hfzb_9, hfzb_10, hfzb_11⟩ := cells12 K9.out)
          | ((with_reducible refine gate_store (t := 25) (p := 6) rfl ?_); refine store_event (t := 25) (p := 6) (v := ?vo_2) (w1 := put12 v5 g6 (.int .i64 0) (.int .i64 0) (.int .i64 0) (.int .i64 0) (.int .i64 0) (.int .i64 0) (.int .i64 0) (.bool false) (.int .i64 0) (.bool false) (.slice none 0 0) (.slice none 0 0)) ?hg ?ho ?hn ?hr ?_; (case ho => rfl); (case hg => rfl); (case hn => rfl); (case hr => first | (go_simp; done) | (go_simp; rfl)); intro vS hw; replace K6 : Aside0 (vS.heap[g6]? = some (.cells #[.int .i64 0, .int .i64 0, .int .i64 0, .int .i64 0, .int .i64 0, .int .i64 0, .int .i64 0, .bool false, .int .i64 0, .bool false, .slice none 0 0, .slice none 0 0] 25 (0, 0))) := ⟨by rw [hw]; exact set12 K6.out⟩; replace B : Aside0 (Below w.heap.size w vS) := ⟨by rw [hw]; refine below_set ?_ G6.out; refine below_set ?_ G6.out; refine below_set ?_ G6.out; refine below_set ?_ G6.out; refine below_set ?_ G6.out; refine below_set ?_ G6.out; refine below_set ?_ G6.out; refine below_set ?_ G6.out; refine below_set ?_ G6.out; refine below_set ?_ G6.out; refine below_set ?_ G6.out; refine below_set ?_ G6.out; exact B.out⟩; clear hw; skip))
      refine bodyPost_ret (results_ct rfl _ _ g6 25 #[.int .i64 0, .int .i64 0, .int .i64 0, .int .i64 0, .int .i64 0, .int .i64 0, .int .i64 0, .bool false, .int .i64 0, .bool false, .slice none 0 0, .slice none 0 0] (0, 0) _ rfl K6.out Try.underlying25 rfl (by kernel_rfl)) rfl ?_
      exact ⟨.slice none 0 0, .slice none 0 0, (by first | rfl | (simp; done) | (simp [*]; done) | (simp [errW_none, errW_some] <;> rfl) | (simp [*, errW_none, errW_some] <;> rfl)), Kd.R_nil _ _ _ _ _, Kd.R_nil _ _ _ _ _, B.out⟩
    | true =>
      rw [if_pos rfl] at H
      unfold impl_DecodeSegment.g at H
      by_cases c1 : (l0.length : Int) < 20
      · rw [if_pos c1] at H
        have c1b : decide ((l0.length : Int) < 20) = true := decide_eq_true c1
        have c1c : decide (l0.length < 20) = true := decide_eq_true (by omega)
        simp only [Option.some.injEq, Prod.mk.injEq] at H
        obtain ⟨rfl, rfl, rfl, rfl, rfl, rfl, rfl, rfl, rfl, rfl, rfl, rfl, rfl⟩ := H
        go_wp2_with (first
            | ((with_reducible refine gate_callee (f := 28) rfl ?_); refine goesL_ (some 17) rfl rfl Try.func28 (by kernel_rfl) rfl #[.int .i64 a1] rfl wT ?_; (with_reducible refine (impl_isAddr.calls a1 true _ P1.out).mono ?_); rintro e v4 ⟨rfl, dd⟩; refine ⟨_, rfl, ?_⟩; have hb := dd.below; replace B := Aside0.mk (below_step B.out hb); replace K6 := Aside0.mk (blk_below K6.out hb); replace K8 := Aside0.mk (blk_below K8.out hb); replace K9 := Aside0.mk (blk_below K9.out hb); clear hb dd; skip)
            | (go_at_call 28; (with_reducible refine (impl_isAddr.calls a2 true _ P2.out).mono ?_); rintro e v5 ⟨rfl, dd⟩; have hb := dd.below; replace B := Aside0.mk (below_step B.out hb); replace K6 := Aside0.mk (blk_below K6.out hb); replace K8 := Aside0.mk (blk_below K8.out hb); replace K9 := Aside0.mk (blk_below K9.out hb); clear hb dd; obtain ⟨⟨hcza_0, hcza_1, hcza_2, hcza_3, hcza_4, hcza_5, hcza_6, hcza_7, hcza_8, hcza_9, hcza_10, hcza_11⟩, hfza_0, hfza_1, hfza_2, hfza_3, hfza_4, hfza_5, hfza_6, hfza_7, hfza_8, hfza_9, hfza_10, hfza_11⟩ := cells12 K6.out; obtain ⟨⟨hczb_0, hczb_1, hczb_2, hczb_3, hczb_4, hczb_5, hczb_6, hczb_7, hczb_8, hczb_9, hczb_10, hczb_11⟩, hfzb_0, hfzb_1, hfzb_2, hfzb_3, hfzb_4, hfzb_5, hfzb_6, hfzb_7, hfzb_8, hfzb_9, hfzb_10, hfzb_11⟩ := cells12 K9.out)
            | ((with_reducible refine gate_store (t := 25) (p := 6) rfl ?_); refine store_event (t := 25) (p := 6) (v := ?vo_3) (w1 := put12 v5 g6 (.int .i64 0) (.int .i64 0) (.int .i64 0) (.int .i64 0) (.int .i64 0) (.int .i64 0) (.int .i64 0) (.bool false) (.int .i64 0) (.bool false) (.slice none 0 0) (.slice none 0 0)) ?hg ?ho ?hn ?hr ?_; (case ho => rfl); (case hg => rfl); (case hn => rfl); (case hr => first | (go_simp; done) | (go_simp; rfl)); intro vS hw; replace K6 : Aside0 (vS.heap[g6]? = some (.cells #[.int .i64 0, .int .i64 0, .int .i64 0, .int .i64 0, .int .i64 0, .int .i64 0, .int .i64 0, .bool false, .int .i64 0, .bool false, .slice none 0 0, .slice none 0 0] 25 (0, 0))) := ⟨by rw [hw]; exact set12 K6.out⟩; replace B : Aside0 (Below w.heap.size w vS) := ⟨by rw [hw]; refine below_set ?_ G6.out; refine below_set ?_ G6.out; refine below_set ?_ G6.out; refine below_set ?_ G6.out; refine below_set ?_ G6.out; refine below_set ?_ G6.out; refine below_set ?_ G6.out; refine below_set ?_ G6.out; refine below_set ?_ G6.out; refine below_set ?_ G6.out; refine below_set ?_ G6.out; refine below_set ?_ G6.out; exact B.out⟩; clear hw; skip))
        refine bodyPost_ret (results_ct rfl _ _ g6 25 #[.int .i64 0, .int .i64 0, .int .i64 0, .int .i64 0, .int .i64 0, .int .i64 0, .int .i64 0, .bool false, .int .i64 0, .bool false, .slice none 0 0, .slice none 0 0] (0, 0) _ rfl K6.out Try.underlying25 rfl (by kernel_rfl)) rfl ?_
        exact ⟨.slice none 0 0, .slice none 0 0, (by first | rfl | (simp; done) | (simp [*]; done) | (simp [errW_none, errW_some] <;> rfl) | (simp [*, errW_none, errW_some] <;> rfl)), Kd.R_nil _ _ _ _ _, Kd.R_nil _ _ _ _ _, B.out⟩
      rw [if_neg c1] at H
      have c1b : decide ((l0.length : Int) < 20) = false := decide_eq_false c1
      have c1c : decide (l0.length < 20) = false := decide_eq_false (by omega)
      by_cases c2 : 65515 < (l0.length : Int)
      · rw [if_pos c2] at H
        have c2b : decide (65515 < (l0.length : Int)) = true := decide_eq_true c2
        have c2c : decide (65515 < l0.length) = true := decide_eq_true (by omega)
        simp only [Option.some.injEq, Prod.mk.injEq] at H
        obtain ⟨rfl, rfl, rfl, rfl, rfl, rfl, rfl, rfl, rfl, rfl, rfl, rfl, rfl⟩ := H
        go_wp2_with (first
            | ((with_reducible refine gate_callee (f := 28) rfl ?_); refine goesL_ (some 17) rfl rfl Try.func28 (by kernel_rfl) rfl #[.int .i64 a1] rfl wT ?_; (with_reducible refine (impl_isAddr.calls a1 true _ P1.out).mono ?_); rintro e v4 ⟨rfl, dd⟩; refine ⟨_, rfl, ?_⟩; have hb := dd.below; replace B := Aside0.mk (below_step B.out hb); replace K6 := Aside0.mk (blk_below K6.out hb); replace K8 := Aside0.mk (blk_below K8.out hb); replace K9 := Aside0.mk (blk_below K9.out hb); clear hb dd; skip)
            | (go_at_call 28; (with_reducible refine (impl_isAddr.calls a2 true _ P2.out).mono ?_); rintro e v5 ⟨rfl, dd⟩; have hb := dd.below; replace B := Aside0.mk (below_step B.out hb); replace K6 := Aside0.mk (blk_below K6.out hb); replace K8 := Aside0.mk (blk_below K8.out hb); replace K9 := Aside0.mk (blk_below K9.out hb); clear hb dd; obtain ⟨⟨hcza_0, hcza_1, hcza_2, hcza_3, hcza_4, hcza_5, hcza_6, hcza_7, hcza_8, hcza_9, hcza_10, hcza_11⟩, hfza_0, hfza_1, hfza_2, hfza_3, hfza_4, hfza_5, hfza_6, hfza_7, hfza_8, hfza_9, hfza_10, hfza_11⟩ := cells12 K6.out; obtain ⟨⟨hczb_0, hczb_1, hczb_2, hczb_3, hczb_4, hczb_5, hczb_6, hczb_7, hczb_8, hczb_9, hczb_10, hczb_11⟩, hfzb_0, hfzb_1, hfzb_2, hfzb_3, hfzb_4, hfzb_5, hfzb_6, hfzb_7, hfzb_8, hfzb_9, hfzb_10, hfzb_11⟩ := cells12 K9.out)
            | ((with_reducible refine gate_store (t := 25) (p := 6) rfl ?_); refine store_event (t := 25) (p := 6) (v := ?vo_4) (w1 := put12 v5 g6 (.int .i64 0) (.int .i64 0) (.int .i64 0) (.int .i64 0) (.int .i64 0) (.int .i64 0) (.int .i64 0) (.bool false) (.int .i64 0) (.bool false) (.slice none 0 0) (.slice none 0 0)) ?hg ?ho ?hn ?hr ?_; (case ho => rfl); (case hg => rfl); (case hn => rfl); (case hr => first | (go_simp; done) | (go_simp; rfl)); intro vS hw; replace K6 : Aside0 (vS.heap[g6]? = some (.cells #[.int .i64 0, .int .i64 0, .int .i64 0, .int .i64 0, .int .i64 0, .int .i64 0, .int .i64 0, .bool false, .int .i64 0, .bool false, .slice none 0 0, .slice none 0 0] 25 (0, 0))) := ⟨by rw [hw]; exact set12 K6.out⟩; replace B : Aside0 (Below w.heap.size w vS) := ⟨by rw [hw]; refine below_set ?_ G6.out; refine below_set ?_ G6.out; refine below_set ?_ G6.out; refine below_set ?_ G6.out; refine below_set ?_ G6.out; refine below_set ?_ G6.out; refine below_set ?_ G6.out; refine below_set ?_ G6.out; refine below_set ?_ G6.out; refine below_set ?_ G6.out; refine below_set ?_ G6.out; refine below_set ?_ G6.out; exact B.out⟩; clear hw; skip))
        refine bodyPost_ret (results_ct rfl _ _ g6 25 #[.int .i64 0, .int .i64 0, .int .i64 0, .int .i64 0, .int .i64 0, .int .i64 0, .int .i64 0, .bool false, .int .i64 0, .bool false, .slice none 0 0, .slice none 0 0] (0, 0) _ rfl K6.out Try.underlying25 rfl (by kernel_rfl)) rfl ?_
        exact ⟨.slice none 0 0, .slice none 0 0, (by first | rfl | (simp; done) | (simp [*]; done) | (simp [errW_none, errW_some] <;> rfl) | (simp [*, errW_none, errW_some] <;> rfl)), Kd.R_nil _ _ _ _ _, Kd.R_nil _ _ _ _ _, B.out⟩
      rw [if_neg c2] at H
      have c2b : decide (65515 < (l0.length : Int)) = false := decide_eq_false c2
      have c2c : decide (65515 < l0.length) = false := decide_eq_false (by omega)
      have HL := Aside0.mk c1
      have HU := Aside0.mk c2
      clear c1 c2
      obtain ⟨ad, ead, hx12⟩ := Kd.at_int (Kd.C_below HR0.out B.out) 12 (by omega) (by have := HL.out; omega)
      subst ead
      simp only [show (12 : Int).toNat = 12 from rfl, Nat.reduceMul, Nat.reduceEqDiff, Go.Addr.add, ↓reduceIte] at hx12
      have HX12 := Aside0.mk hx12
      clear hx12
      go_upto_region 8 with (first
          | ((with_reducible refine gate_callee (f := 28) rfl ?_); refine goesL_ (some 17) rfl rfl Try.func28 (by kernel_rfl) rfl #[.int .i64 a1] rfl wT ?_; (with_reducible refine (impl_isAddr.calls a1 true _ P1.out).mono ?_); rintro e v4 ⟨rfl, dd⟩; refine ⟨_, rfl, ?_⟩; have hb := dd.below; replace B := Aside0.mk (below_step B.out hb); replace K6 := Aside0.mk (blk_below K6.out hb); replace K8 := Aside0.mk (blk_below K8.out hb); replace K9 := Aside0.mk (blk_below K9.out hb); clear hb dd; skip)
          | (go_at_call 28; (with_reducible refine (impl_isAddr.calls a2 true _ P2.out).mono ?_); rintro e v5 ⟨rfl, dd⟩; have hb := dd.below; replace B := Aside0.mk (below_step B.out hb); replace K6 := Aside0.mk (blk_below K6.out hb); replace K8 := Aside0.mk (blk_below K8.out hb); replace K9 := Aside0.mk (blk_below K9.out hb); clear hb dd; obtain ⟨⟨hcza_0, hcza_1, hcza_2, hcza_3, hcza_4, hcza_5, hcza_6, hcza_7, hcza_8, hcza_9, hcza_10, hcza_11⟩, hfza_0, hfza_1, hfza_2, hfza_3, hfza_4, hfza_5, hfza_6, hfza_7, hfza_8, hfza_9, hfza_10, hfza_11⟩ := cells12 K6.out; obtain ⟨⟨hczb_0, hczb_1, hczb_2, hczb_3, hczb_4, hczb_5, hczb_6, hczb_7, hczb_8, hczb_9, hczb_10, hczb_11⟩, hfzb_0, hfzb_1, hfzb_2, hfzb_3, hfzb_4, hfzb_5, hfzb_6, hfzb_7, hfzb_8, hfzb_9, hfzb_10, hfzb_11⟩ := cells12 K9.out))
      clear hcza_0 hfza_0 hcza_1 hfza_1 hcza_2 hfza_2 hcza_3 hfza_3 hcza_4 hfza_4 hcza_5 hfza_5 hcza_6 hfza_6 hcza_7 hfza_7 hcza_8 hfza_8 hcza_9 hfza_9 hcza_10 hfza_10 hcza_11 hfza_11 hczb_0 hfzb_0 hczb_1 hfzb_1 hczb_2 hfzb_2 hczb_3 hfzb_3 hczb_4 hfzb_4 hczb_5 hfzb_5 hczb_6 hfzb_6 hczb_7 hfzb_7 hczb_8 hfzb_8 hczb_9 hfzb_9 hczb_10 hfzb_10 hczb_11 hfzb_11
      obtain ⟨n, hn⟩ : ∃ n_ : Int, n_ = wrap64 ((wrap64 ((rd l0 12) / 16)) * 4) := ⟨_, rfl⟩
      rw [← hn] at H
      have hnw : wrap64 ((wrap64 ((rd l0 12) / 16)) * 4) = n := hn.symm
      have hnw2 : IntKind.i64.wrap ((IntKind.i64.wrap ((rd l0 12) / 16)) * 4) = n := by simp only [i64_w]; exact hnw
      have hnw3 : IntKind.i64.wrap ((wrap64 ((rd l0 12) / 16)) * 4) = n := by simp only [i64_w]; exact hnw
      have HNN := Aside0.mk hn
      clear hn
      obtain ⟨ad2, ead, hx12⟩ := Kd.at_int (Kd.C_below HR0.out B.out) 12 (by omega) (by have := HL.out; omega)
      obtain rfl : ad = ad2 := (by injection ead)
      simp only [show (12 : Int).toNat = 12 from rfl, Nat.reduceMul, Nat.reduceEqDiff, Go.Addr.add, ↓reduceIte] at hx12
      clear ead HX12
      have q12 : (12 < l0.length) = True := eq_true (by have := HL.out; omega)
      have q12i : ((12 : Int) < (l0.length : Int)) = True := eq_true (by have := HL.out; omega)
      unfold impl_DecodeSegment.s at H
      by_cases c3 : n < 20
      · rw [if_pos c3] at H
        have c3b : decide (n < 20) = true := decide_eq_true c3
        clear c3
        simp only [Option.some.injEq, Prod.mk.injEq] at H
        obtain ⟨rfl, rfl, rfl, rfl, rfl, rfl, rfl, rfl, rfl, rfl, rfl, rfl, rfl⟩ := H
        obtain ⟨⟨hcza_0, hcza_1, hcza_2, hcza_3, hcza_4, hcza_5, hcza_6, hcza_7, hcza_8, hcza_9, hcza_10, hcza_11⟩, hfza_0, hfza_1, hfza_2, hfza_3, hfza_4, hfza_5, hfza_6, hfza_7, hfza_8, hfza_9, hfza_10, hfza_11⟩ := cells12 K6.out
        obtain ⟨⟨hczb_0, hczb_1, hczb_2, hczb_3, hczb_4, hczb_5, hczb_6, hczb_7, hczb_8, hczb_9, hczb_10, hczb_11⟩, hfzb_0, hfzb_1, hfzb_2, hfzb_3, hfzb_4, hfzb_5, hfzb_6, hfzb_7, hfzb_8, hfzb_9, hfzb_10, hfzb_11⟩ := cells12 K9.out
        go_wp2_with (first
            | ((with_reducible refine gate_store (t := 25) (p := 6) rfl ?_); refine store_event (t := 25) (p := 6) (v := ?vo_5) (w1 := put12 v5 g6 (.int .i64 0) (.int .i64 0) (.int .i64 0) (.int .i64 0) (.int .i64 0) (.int .i64 0) (.int .i64 0) (.bool false) (.int .i64 0) (.bool false) (.slice none 0 0) (.slice none 0 0)) ?hg ?ho ?hn ?hr ?_; (case ho => rfl); (case hg => rfl); (case hn => rfl); (case hr => first | (go_simp; done) | (go_simp; rfl)); intro vS hw; replace K6 : Aside0 (vS.heap[g6]? = some (.cells #[.int .i64 0, .int .i64 0, .int .i64 0, .int .i64 0, .int .i64 0, .int .i64 0, .int .i64 0, .bool false, .int .i64 0, .bool false, .slice none 0 0, .slice none 0 0] 25 (0, 0))) := ⟨by rw [hw]; exact set12 K6.out⟩; replace B : Aside0 (Below w.heap.size w vS) := ⟨by rw [hw]; refine below_set ?_ G6.out; refine below_set ?_ G6.out; refine below_set ?_ G6.out; refine below_set ?_ G6.out; refine below_set ?_ G6.out; refine below_set ?_ G6.out; refine below_set ?_ G6.out; refine below_set ?_ G6.out; refine below_set ?_ G6.out; refine below_set ?_ G6.out; refine below_set ?_ G6.out; refine below_set ?_ G6.out; exact B.out⟩; clear hw; skip))
        refine bodyPost_ret (results_ct rfl _ _ g6 25 #[.int .i64 0, .int .i64 0, .int .i64 0, .int .i64 0, .int .i64 0, .int .i64 0, .int .i64 0, .bool false, .int .i64 0, .bool false, .slice none 0 0, .slice none 0 0] (0, 0) _ rfl K6.out Try.underlying25 rfl (by kernel_rfl)) rfl ?_
        exact ⟨.slice none 0 0, .slice none 0 0, (by first | rfl | (simp; done) | (simp [*]; done) | (simp [errW_none, errW_some] <;> rfl) | (simp [*, errW_none, errW_some] <;> rfl)), Kd.R_nil _ _ _ _ _, Kd.R_nil _ _ _ _ _, B.out⟩
      rw [if_neg c3] at H
      have c3b : decide (n < 20) = false := decide_eq_false c3
      by_cases c4 : (l0.length : Int) < n
      · rw [if_pos c4] at H
        have c4b : decide ((l0.length : Int) < n) = true := decide_eq_true c4
        clear c3 c4
        simp only [Option.some.injEq, Prod.mk.injEq] at H
        obtain ⟨rfl, rfl, rfl, rfl, rfl, rfl, rfl, rfl, rfl, rfl, rfl, rfl, rfl⟩ := H
        obtain ⟨⟨hcza_0, hcza_1, hcza_2, hcza_3, hcza_4, hcza_5, hcza_6, hcza_7, hcza_8, hcza_9, hcza_10, hcza_11⟩, hfza_0, hfza_1, hfza_2, hfza_3, hfza_4, hfza_5, hfza_6, hfza_7, hfza_8, hfza_9, hfza_10, hfza_11⟩ := cells12 K6.out
        obtain ⟨⟨hczb_0, hczb_1, hczb_2, hczb_3, hczb_4, hczb_5, hczb_6, hczb_7, hczb_8, hczb_9, hczb_10, hczb_11⟩, hfzb_0, hfzb_1, hfzb_2, hfzb_3, hfzb_4, hfzb_5, hfzb_6, hfzb_7, hfzb_8, hfzb_9, hfzb_10, hfzb_11⟩ := cells12 K9.out
        go_wp2_with (first
            | ((with_reducible refine gate_store (t := 25) (p := 6) rfl ?_); refine store_event (t := 25) (p := 6) (v := ?vo_6) (w1 := put12 v5 g6 (.int .i64 0) (.int .i64 0) (.int .i64 0) (.int .i64 0) (.int .i64 0) (.int .i64 0) (.int .i64 0) (.bool false) (.int .i64 0) (.bool false) (.slice none 0 0) (.slice none 0 0)) ?hg ?ho ?hn ?hr ?_; (case ho => rfl); (case hg => rfl); (case hn => rfl); (case hr => first | (go_simp; done) | (go_simp; rfl)); intro vS hw; replace K6 : Aside0 (vS.heap[g6]? = some (.cells #[.int .i64 0, .int .i64 0, .int .i64 0, .int .i64 0, .int .i64 0, .int .i64 0, .int .i64 0, .bool false, .int .i64 0, .bool false, .slice none 0 0, .slice none 0 0] 25 (0, 0))) := ⟨by rw [hw]; exact set12 K6.out⟩; replace B : Aside0 (Below w.heap.size w vS) := ⟨by rw [hw]; refine below_set ?_ G6.out; refine below_set ?_ G6.out; refine below_set ?_ G6.out; refine below_set ?_ G6.out; refine below_set ?_ G6.out; refine below_set ?_ G6.out; refine below_set ?_ G6.out; refine below_set ?_ G6.out; refine below_set ?_ G6.out; refine below_set ?_ G6.out; refine below_set ?_ G6.out; refine below_set ?_ G6.out; exact B.out⟩; clear hw; skip))
        refine bodyPost_ret (results_ct rfl _ _ g6 25 #[.int .i64 0, .int .i64 0, .int .i64 0, .int .i64 0, .int .i64 0, .int .i64 0, .int .i64 0, .bool false, .int .i64 0, .bool false, .slice none 0 0, .slice none 0 0] (0, 0) _ rfl K6.out Try.underlying25 rfl (by kernel_rfl)) rfl ?_
        exact ⟨.slice none 0 0, .slice none 0 0, (by first | rfl | (simp; done) | (simp [*]; done) | (simp [errW_none, errW_some] <;> rfl) | (simp [*, errW_none, errW_some] <;> rfl)), Kd.R_nil _ _ _ _ _, Kd.R_nil _ _ _ _ _, B.out⟩
      rw [if_neg c4] at H
      have c4b : decide ((l0.length : Int) < n) = false := decide_eq_false c4
      have HN0 := Aside0.mk (show 20 ≤ n from by omega)
      have HN1 := Aside0.mk (show n ≤ (l0.length : Int) from by omega)
      clear c3 c4
      replace H := Option.bind_eq_some_iff.mp H; obtain ⟨t, At, H⟩ := H
      have E1 := Aside0.mk At
      clear At
      by_cases c5 : t.length + l0.length < 140737488355328
      rotate_left
      · rw [if_neg c5] at H
        cases H
      rw [if_pos c5] at H
      have HLT := Aside0.mk c5
      clear c5
      replace H := Option.bind_eq_some_iff.mp H; obtain ⟨c, Ac, H⟩ := H
      have E2 := Aside0.mk Ac
      clear Ac
      obtain ⟨yt, hyt⟩ : ∃ y_ : List Int, y_ = t ++ l0 := ⟨_, rfl⟩
      rw [← hyt] at E2
      have HYT := Aside0.mk hyt
      clear hyt
      go_upto_region 11 with (fail)
      clear hx12 q12 q12i hnw hnw2 hnw3
      by_cases c6 : c = 0
      rotate_left
      · rw [if_neg c6] at H
        have c6b : ((c) == 0) = false := beq_eq_false_iff_ne.mpr c6
        have c6c : ((c) != 0) = true := bne_iff_ne.mpr c6
        clear c6
        simp only [Option.some.injEq, Prod.mk.injEq] at H
        obtain ⟨rfl, rfl, rfl, rfl, rfl, rfl, rfl, rfl, rfl, rfl, rfl, rfl, rfl⟩ := H
        go_wp2_with (first
            | ((with_reducible refine gate_callee (f := 30) rfl ?_); refine goesL_ (some 54) rfl rfl Try.func30 (by kernel_rfl) rfl #[.int .i64 a1, .int .i64 a2, .int .i64 6, .int .i64 (l0.length : Int)] rfl wT ?_; (with_reducible refine (impl_FalseHead.calls k a1 a2 6 (l0.length : Int) t _ E1.out).mono ?_); rintro e v6 ⟨vt, rfl, ht, hb⟩; refine ⟨_, rfl, ?_⟩; have T : Aside0 (Kd.R (Kd.int .u8) 5 v6 w.heap.size (fun k_ => w.heap.size ≤ k_) vt t) := ⟨Kd.R_mono (Kd.R_lower (Kd.R_newM (M := fun k_ => w.heap.size ≤ k_) ht B.out.size (fun _ h_ => h_)) B.out.size) (fun _ h_ => h_.1)⟩; replace B := Aside0.mk (below_step B.out hb); replace K6 := Aside0.mk (blk_below K6.out hb); replace K8 := Aside0.mk (blk_below K8.out hb); replace K9 := Aside0.mk (blk_below K9.out hb); clear hb ht)
            | ((with_reducible refine gate_builtin (b := .append) (xs := #[.tmp 54, .tmp 55]) rfl ?_); at_builtin; refine Kd.R_append_rows (Kd.int .u8) (w0 := w) w.heap.size rfl (.tmp 54) (.tmp 55) 22 5 (.int .u8 0) 1 rfl Try.underlying22 info5 rfl (by decide) (by omega) vt t l0 _ _ _ (fun k_ => w.heap.size ≤ k_) (fun _ => False) rfl rfl ?aO ?aR (fun _ _ h => h) (fun _ h => h.elim) ?aF ?aB ?aS ?aL ?_; (case aR => exact Kd.C_below HR0.out B.out); (case aB => exact B.out); (case aF => exact (fun k_ hk => (Nat.le_trans B.out.size hk))); (case aO => exact T.out); (case aS => exact B.out.size); (case aL => have := HLT.out; omega); intro v1_ v7 ho hb hg hat; rw [← HYT.out] at ho; replace K6 := Aside0.mk (blk_grown K6.out hg (Kd.R_ne T.out K6.out (by decide))); replace K8 := Aside0.mk (blk_grown K8.out hg (Kd.R_ne T.out K8.out (by decide))); replace K9 := Aside0.mk (blk_grown K9.out hg (Kd.R_ne T.out K9.out (by decide))); replace B := Aside0.mk hb; clear T; have T := Aside0.mk ho; clear ho hb hg hat; obtain ⟨At, ct, et⟩ := Kd.R_slice T.out; subst et)
            | ((with_reducible refine gate_callee (f := 29) rfl ?_); refine goesL_ (some 57) rfl rfl Try.func29 (by kernel_rfl) rfl #[.slice At yt.length ct] rfl wT ?_; (with_reducible refine (impl_Checksum.calls k _ _ yt c _ ?side1 ?side2 E2.out).mono ?_); (case side1 => exact (Kd.R_reads' T.out).2.2); (case side2 => exact (Kd.R_reads' T.out).2.1); rintro e v8 ⟨rfl, dd⟩; refine ⟨_, rfl, ?_⟩; have hb := dd.below; replace B := Aside0.mk (below_step B.out hb); replace K6 := Aside0.mk (blk_below K6.out hb); replace K8 := Aside0.mk (blk_below K8.out hb); replace K9 := Aside0.mk (blk_below K9.out hb); clear hb dd T; obtain ⟨⟨hcza_0, hcza_1, hcza_2, hcza_3, hcza_4, hcza_5, hcza_6, hcza_7, hcza_8, hcza_9, hcza_10, hcza_11⟩, hfza_0, hfza_1, hfza_2, hfza_3, hfza_4, hfza_5, hfza_6, hfza_7, hfza_8, hfza_9, hfza_10, hfza_11⟩ := cells12 K6.out; obtain ⟨⟨hczb_0, hczb_1, hczb_2, hczb_3, hczb_4, hczb_5, hczb_6, hczb_7, hczb_8, hczb_9, hczb_10, hczb_11⟩, hfzb_0, hfzb_1, hfzb_2, hfzb_3, hfzb_4, hfzb_5, hfzb_6, hfzb_7, hfzb_8, hfzb_9, hfzb_10, hfzb_11⟩ := cells12 K9.out)
            | ((with_reducible refine gate_store (t := 25) (p := 6) rfl ?_); refine store_event (t := 25) (p := 6) (v := ?vo_7) (w1 := put12 v8 g6 (.int .i64 0) (.int .i64 0) (.int .i64 0) (.int .i64 0) (.int .i64 0) (.int .i64 0) (.int .i64 0) (.bool false) (.int .i64 0) (.bool false) (.slice none 0 0) (.slice none 0 0)) ?hg ?ho ?hn ?hr ?_; (case ho => rfl); (case hg => rfl); (case hn => rfl); (case hr => first | (go_simp; done) | (go_simp; rfl)); intro vS hw; replace K6 : Aside0 (vS.heap[g6]? = some (.cells #[.int .i64 0, .int .i64 0, .int .i64 0, .int .i64 0, .int .i64 0, .int .i64 0, .int .i64 0, .bool false, .int .i64 0, .bool false, .slice none 0 0, .slice none 0 0] 25 (0, 0))) := ⟨by rw [hw]; exact set12 K6.out⟩; replace B : Aside0 (Below w.heap.size w vS) := ⟨by rw [hw]; refine below_set ?_ G6.out; refine below_set ?_ G6.out; refine below_set ?_ G6.out; refine below_set ?_ G6.out; refine below_set ?_ G6.out; refine below_set ?_ G6.out; refine below_set ?_ G6.out; refine below_set ?_ G6.out; refine below_set ?_ G6.out; refine below_set ?_ G6.out; refine below_set ?_ G6.out; refine below_set ?_ G6.out; exact B.out⟩; clear hw; skip))
        refine bodyPost_ret (results_ct rfl _ _ g6 25 #[.int .i64 0, .int .i64 0, .int .i64 0, .int .i64 0, .int .i64 0, .int .i64 0, .int .i64 0, .bool false, .int .i64 0, .bool false, .slice none 0 0, .slice none 0 0] (0, 0) _ rfl K6.out Try.underlying25 rfl (by kernel_rfl)) rfl ?_
        exact ⟨.slice none 0 0, .slice none 0 0, (by first | rfl | (simp; done) | (simp [*]; done) | (simp [errW_none, errW_some] <;> rfl) | (simp [*, errW_none, errW_some] <;> rfl)), Kd.R_nil _ _ _ _ _, Kd.R_nil _ _ _ _ _, B.out⟩
      rw [if_pos c6] at H
      unfold impl_DecodeSegment.t at H
      cases H
theorem impl_DecodeSegment.calls (k : Nat) (A0 : Option Addr) (c0 : Nat) (l0 : List Int) (a1 a2 : Int) (r0 : Int) (r1 : Int) (r2 : Int) (r3 : Int) (r4 : Int) (r5 : Int) (r6 : Int) (r7 : Bool) (r8 : Int) (r9 : Bool) (aa : List (S60)) (ab : List Int) (ac : Int) (w : World) (hr0 : Kd.C (Kd.int .u8) w A0 l0.length l0) (hc0 : l0.length ≤ c0) (h : impl_DecodeSegment.f k l0 a1 a2 = some (r0, r1, r2, r3, r4, r5, r6, r7, r8, r9, aa, ab, ac)) :
    Calls Try.prog 7 #[.slice A0 l0.length c0, .int .i64 a1, .int .i64 a2] w fun e w' => ∃ v10_ v11_ : Value, e = .returned (.tuple #[.agg #[.int .i64 r0, .int .i64 r1, .int .i64 r2, .int .i64 r3, .int .i64 r4, .int .i64 r5, .int .i64 r6, .bool r7, .int .i64 r8, .bool r9, v10_, v11_], .int .i64 ac]) ∧ Kd.R k60 60 w' w.heap.size (fun k_ => w.heap.size ≤ k_) v10_ aa ∧ Kd.R (Kd.int .u8) 5 w' w.heap.size (fun k_ => w.heap.size ≤ k_) v11_ ab ∧ Below w.heap.size w w' := (impl_DecodeSegment.early k A0 c0 l0 a1 a2 r0 r1 r2 r3 r4 r5 r6 r7 r8 r9 aa ab ac w hr0 hc0 h).mono fun _ _ h => h

end Go.Proofs.Ytfllcmeakcbiaaa.PFnOneBit
