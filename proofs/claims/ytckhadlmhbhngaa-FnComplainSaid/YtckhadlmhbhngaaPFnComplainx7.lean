-- Written for this claim by a program of this session (wip/mkprint.py: the print, turned at a few places). Not trusted: Lean checks it.
import Derived.Test.YtckhadlmhbhngaaPFnComplainx0
import Derived.Test.YtckhadlmhbhngaaPFnComplainx5
import Derived.Test.YtckhadlmhbhngaaPFnComplainx6
namespace Go.Proofs.Ytckhadlmhbhngaa.PFnComplain
open Go.RowKit Go.Proofs.YtckhadlmhbhngaaW.PrintWords Go.Proofs.YtckhadlmhbhngaaW.PrintLast Go.Proofs.YtckhadlmhbhngaaW.PrintMore
attribute [local go_sem] max2_int min2_int max_two min_two max_three min_three max_four min_four   -- for this text's walks alone
set_option linter.unusedVariables false
set_option linter.unusedSimpArgs false

/-! ### spec_l05Packet: function 29 -/
/-! ### spec_l05Packet: function 29, walked by hand -/
theorem eZ {p : Prop} (h : p := by first | rfl | (simp; done) | (simp [*]; done)) : p := h
/-- the facts that go along: the state, the frame, what is kept, the answer's box -/
def St (w0 w : World) (g : Nat) (c : List Int) (g4 : Nat) (p t : Int) (u : World) : Prop := IsS61 w0 u g c p t ∧ Below w0.heap.size w0 u ∧ KeepBut w u g none ∧ u.heap[g4]? = some (.cells #[.int .i64 0, .int .i64 0, .bool false, .bool false, .int .i64 0, .int .i64 0, .int .i64 0, .int .i64 0, .int .i64 0, .slice none 0 0, .slice none 0 0] 25 (0, 0))
section
variable {w0 w u v : World} {g : Nat} {c : List Int} {g4 : Nat} {p t p' t' : Int}
theorem St.call (h : St w0 w g c g4 p t u) (n4 : g4 ≠ g) (hi : IsS61 w0 v g c p' t') (hb : Below w0.heap.size w0 v) (hk : KeepBut u v g none) : St w0 w g c g4 p' t' v := ⟨hi, hb, KeepBut.trans h.2.2.1 hk (.inl rfl), KeepBut.blk hk h.2.2.2 n4 (by simp)⟩
theorem St.made (h : St w0 w g c g4 p t u) (hb : Below u.heap.size u v) : St w0 w g c g4 p t v := ⟨IsS61.below h.1 hb, below_step h.2.1 hb, KeepBut.trans h.2.2.1 (KeepBut.of_below hb g none) (.inl rfl), blk_below h.2.2.2 hb⟩
theorem St.set {g5 j : Nat} {x : Value} (h : St w0 w g c g4 p t u) (hx : w.heap.size ≤ g5 ∧ w0.heap.size ≤ g5 ∧ g5 ≠ g ∧ g4 ≠ g5) : St w0 w g c g4 p t (u.setCell ⟨g5, j, none⟩ x) := ⟨IsS61.far h.1 hx.2.2.1.symm _, below_set h.2.1 hx.2.1, keep_far (p := ⟨g5, j, none⟩) h.2.2.1 hx.1 _, blk_far (p := ⟨g5, j, none⟩) h.2.2.2 hx.2.2.2 _⟩
theorem St.put {g5 : Nat} {v0 v1 v2 v3 v4 v5 v6 v7 v8 v9 v10 : Value} (h : St w0 w g c g4 p t u) (hx : w.heap.size ≤ g5 ∧ w0.heap.size ≤ g5 ∧ g5 ≠ g ∧ g4 ≠ g5) : St w0 w g c g4 p t (put11 u g5 v0 v1 v2 v3 v4 v5 v6 v7 v8 v9 v10) := by
  unfold put11
  iterate 11 (refine St.set ?_ hx)
  exact h
theorem row_set {g5 j : Nat} {x y : Value} {ys : List Int} {base : Nat} {ok : Nat → Prop} {cs : Array Value} (hr : Kd.R (Kd.int .u8) 5 u base ok y ys) (hb : u.heap[g5]? = some (.cells cs 25 (0, 0))) : Kd.R (Kd.int .u8) 5 (u.setCell ⟨g5, j, none⟩ x) base ok y ys := Kd.R_mono (Kd.R_far (p := ⟨g5, j, none⟩) (Kd.R_types hr hb (by decide)) (fun _ hk => hk.2) _) (fun _ hk => hk.1)
theorem row_put {g5 : Nat} {v0 v1 v2 v3 v4 v5 v6 v7 v8 v9 aa y : Value} {ys : List Int} {base : Nat} {ok : Nat → Prop} {cs : Array Value} (hr : Kd.R (Kd.int .u8) 5 u base ok y ys) (hb : u.heap[g5]? = some (.cells cs 25 (0, 0))) : Kd.R (Kd.int .u8) 5 (put11 u g5 v0 v1 v2 v3 v4 v5 v6 v7 v8 v9 aa) base ok y ys := Kd.R_mono (Kd.R_step (Kd.R_types hr hb (by decide)) (fun _ hk _ => far11 hk.2)) (fun _ hk => hk.1)
theorem is_put {v0 v1 v2 v3 v4 v5 v6 v7 v8 v9 v10 : Value} (h : IsS61 w0 u g c p t) (n : g ≠ g4) : IsS61 w0 (put11 u g4 v0 v1 v2 v3 v4 v5 v6 v7 v8 v9 v10) g c p t := by
  unfold put11
  iterate 11 (refine IsS61.far (p := ⟨g4, _, none⟩) ?_ n _)
  exact h
theorem keep_put {v0 v1 v2 v3 v4 v5 v6 v7 v8 v9 v10 : Value} (h : KeepBut w u g none) (n : w.heap.size ≤ g4) : KeepBut w (put11 u g4 v0 v1 v2 v3 v4 v5 v6 v7 v8 v9 v10) g none := by
  unfold put11
  iterate 11 (refine keep_far (p := ⟨g4, _, none⟩) ?_ n _)
  exact h
theorem below_put {v0 v1 v2 v3 v4 v5 v6 v7 v8 v9 v10 : Value} (h : Below w0.heap.size w0 u) (n : w0.heap.size ≤ g4) : Below w0.heap.size w0 (put11 u g4 v0 v1 v2 v3 v4 v5 v6 v7 v8 v9 v10) := by
  unfold put11
  iterate 11 (refine below_set ?_ n)
  exact h
theorem St.i (h : Aside0 (St w0 w g c g4 p t u)) : IsS61 w0 u g c p t := h.out.1
theorem St.b (h : Aside0 (St w0 w g c g4 p t u)) : Below w0.heap.size w0 u := h.out.2.1
theorem St.row {α : Type} {d : Kd α} {e base : Nat} {ok : Nat → Prop} {x : Value} {xs : List α} (h : St w0 w g c g4 p t u) (hr : d.R e u base ok x xs) (hk : KeepBut u v g none) (ht : ∀ q, q ∈ e :: d.E → q ≠ 61 := by decide) : d.R e v base ok x xs := Kd.R_mono (Kd.R_keep (IsS61.apart h.1 hr ht) hk (fun _ h_ => h_.2)) (fun _ h_ => h_.1)
/-- a row that is made by a call lies apart from the elder one, and that from it -/
theorem St.elder {x : Value} {xs : List Int} {y : Value} {ys : List Int} {base : Nat} {ok : Nat → Prop} (h : St w0 w g c g4 p t u) (hr : Kd.R (Kd.int .u8) 5 u base ok x xs) (hk : KeepBut u v g none) (hn : Kd.R (Kd.int .u8) 5 v u.heap.size (fun _ => True) y ys) : Kd.R (Kd.int .u8) 5 v base (fun k_ => some k_ ≠ y.ownBlock) x xs :=
  Kd.R_mono (Kd.R_keep (Kd.R_bound (IsS61.apart h.1 hr (by decide))) hk (fun _ h_ => h_.1.2)) (fun k_ h_ e_ => by have := Kd.R_base hn k_ e_.symm; have := h_.2.2.1; omega)
theorem St.elderB {x : Value} {xs : List Int} {y : Value} {ys : List Int} {base : Nat} {ok : Nat → Prop} (hr : Kd.R (Kd.int .u8) 5 u base ok x xs) (hb : Below u.heap.size u v) (hn : Kd.R (Kd.int .u8) 5 v u.heap.size (fun _ => True) y ys) : Kd.R (Kd.int .u8) 5 v base (fun k_ => some k_ ≠ y.ownBlock) x xs := Kd.R_mono (Kd.R_elder' hr (Kd.R_base hn) hb) (fun _ h_ => h_.2)
theorem St.newer {x : Value} {xs : List Int} {y : Value} {ys : List Int} {base : Nat} {ok : Nat → Prop} (h : St w0 w g c g4 p t u) (hr : Kd.R (Kd.int .u8) 5 u base ok x xs) (hn : Kd.R (Kd.int .u8) 5 v u.heap.size (fun _ => True) y ys) : Kd.R (Kd.int .u8) 5 v w.heap.size (fun k_ => some k_ ≠ x.ownBlock) y ys :=
  Kd.R_mono (Kd.R_lower (Kd.R_new' hn (Kd.R_lt hr)) (keep_size h.2.2.1)) (fun _ h_ => h_.2)
end
section
variable {P : Program} {md : Region.Mode} {ops : Array Oper} {Q : Exit → Act → World → Prop} {S : World → Prop} {ds : List Nat} {T : Bool × List (List Nat × List Nat)} {fuel : Nat} {l : Array Bool} {a a' : Act} {w : World} {oi oj ok_ : Oper}
theorem pu_ (hT : Aside0 (rtab md ops = T)) (i : Nat) (N : Tmp) (l' : Array Bool) {v : Value} (h : wpAnyLast P md ops Q S ds fuel l' a' w) (hi : ops[i]? = some oi := by rfl) (hN : oi.dst = some N := by rfl) (hc : anyT T l.toList l'.toList i = true := by kernel_rfl) (hy : Yields P ops oi v a := by exact Or.inl ⟨by rfl, by (intro w'; go_simp; with_reducible rfl)⟩) (ha : a.put (some N) v = a' := by (simp only [Act.put, List.setIfInBounds_toArray, List.set_cons_zero, List.set_cons_succ, i64_w, i32_w]; rfl)) (hQ : ∀ c a w, Q (.panic c) (a.put oi.dst v) w → Q (.panic c) a w := by exact fun _ _ _ h => h) : wpAnyLast P md ops Q S ds (fuel + 1) l a w := pure_ l' hi hN (any_of hT.out hc) hQ hy ha h
theorem on_ (hT : Aside0 (rtab md ops = T)) (i : Nat) (N : Option Tmp) (l' : Array Bool) (h : ∀ K : Act → World → Prop, Shut (∀ a' w', S w' → (S w' → wpAnyLast P md ops Q S ds fuel l' a' w') → K a' w') → if Region.wanted oi (yielded ops a.tmps) = true then Oper.wp P oi a w K Q else K (a.put N undef) w) (hi : ops[i]? = some oi := by rfl) (hN : oi.dst = N := by rfl) (hc : (readyT T.2 l.toList == [i] && l.toList.set i true == l'.toList) = true := by kernel_rfl) (hd : i ∉ ds := by decide) : wpAnyLast P md ops Q S ds (fuel + 1) l a w := one_ l' hi hN (one_of hT.out hc) hd h
theorem nr_ (h : wpAnyLast P md ops Q S ds fuel l a' w) (ha : a = a' := by (simp only [Act.put, List.setIfInBounds_toArray, List.set_cons_zero, List.set_cons_succ, i64_w, i32_w]; rfl)) : wpAnyLast P md ops Q S ds fuel l a w := norm_ ha h
theorem pa_ (h : wpAnyLast P md ops Q S ds fuel l a' w) (ha : a = a' := by (simp only [putAll, Act.put, List.setIfInBounds_toArray, List.set_cons_zero, List.set_cons_succ]; rfl)) : wpAnyLast P md ops Q S ds fuel l a w := norm_ ha h
theorem nrm_ (h : wpAnyLast P md ops Q S ds fuel l a' w) (ha : a = a' := by first | (simp only [putAll, Act.put, List.setIfInBounds_toArray, List.set_cons_zero, List.set_cons_succ]; done) | (simp only [putAll, Act.put, List.setIfInBounds_toArray, List.set_cons_zero, List.set_cons_succ]; rfl)) : wpAnyLast P md ops Q S ds fuel l a w := norm_ ha h
end
section
variable {ops : Array Oper} {Q : Exit → Act → World → Prop} {oi : Oper} {N : Tmp} {a : Act} {K : Act → World → Prop} {as_ : Array Operand} {ts : Array TypeId} {w0 w u : World} {g : Nat} {c : List Int} {g4 : Nat} {p t p' t' q r : Int}
theorem nx_ (hS : St w0 w g c g4 p t u) (n4 : Aside0 (g4 ≠ g)) (E : Aside0 (spec_l01Next.f c p t q = some (r, p', t'))) (k : ∀ v, St w0 w g c g4 p' t' v → KeepBut u v g none → K (a.put (some N) (.int .i64 r)) v) (hw : Region.wanted oi (yielded ops a.tmps) = true := by rfl) (hN : oi.dst = some N := by rfl) (hop : oi.op = .call { callee := .value (.func 30), args := as_, argTypes := ts } := by rfl) (hargs : as_.map a.eval = #[.pointer (some ⟨g, 0, none⟩), .int .i64 q] := by ((try simp only [List.map_toArray, List.map_cons, List.map_nil]); rfl)) : if Region.wanted oi (yielded ops a.tmps) = true then Oper.wp Try.prog oi a u K Q else K (a.put (some N) undef) u := by
  refine goes_ Try.func30 (by kernel_rfl) rfl _ hw hN hop hargs ?_
  refine (spec_l01Next.calls g c p t q r p' t' w0 _ hS.1 hS.2.1 E.out).mono ?_
  rintro e v ⟨rfl, hi, hb, hk⟩
  exact ⟨_, rfl, k v (hS.call n4.out hi hb hk) hk⟩
theorem ho_ (hS : St w0 w g c g4 p t u) (n4 : Aside0 (g4 ≠ g)) (E : Aside0 (spec_l02Host.f c p t = some (r, p', t'))) (k : ∀ v, St w0 w g c g4 p' t' v → KeepBut u v g none → K (a.put (some N) (.int .i64 r)) v) (hw : Region.wanted oi (yielded ops a.tmps) = true := by rfl) (hN : oi.dst = some N := by rfl) (hop : oi.op = .call { callee := .value (.func 43), args := as_, argTypes := ts } := by rfl) (hargs : as_.map a.eval = #[.pointer (some ⟨g, 0, none⟩)] := by ((try simp only [List.map_toArray, List.map_cons, List.map_nil]); rfl)) : if Region.wanted oi (yielded ops a.tmps) = true then Oper.wp Try.prog oi a u K Q else K (a.put (some N) undef) u := by
  refine goes_ Try.func43 (by kernel_rfl) rfl _ hw hN hop hargs ?_
  refine (spec_l02Host.calls g c p t r p' t' w0 _ hS.1 hS.2.1 E.out).mono ?_
  rintro e v ⟨rfl, hi, hb, hk⟩
  exact ⟨_, rfl, k v (hS.call n4.out hi hb hk) hk⟩
theorem by_ {kk : Nat} {xs : List Int} (hS : St w0 w g c g4 p t u) (n4 : Aside0 (g4 ≠ g)) (E : Aside0 (spec_l01Bytes.f kk c p t q = some (xs, p', t'))) (k : ∀ v A n, Kd.R (Kd.int .u8) 5 v u.heap.size (fun _ => True) (.slice A xs.length n) xs → St w0 w g c g4 p' t' v → KeepBut u v g none → K (a.put (some N) (.slice A xs.length n)) v) (hw : Region.wanted oi (yielded ops a.tmps) = true := by rfl) (hN : oi.dst = some N := by rfl) (hop : oi.op = .call { callee := .value (.func 33), args := as_, argTypes := ts } := by rfl) (hargs : as_.map a.eval = #[.pointer (some ⟨g, 0, none⟩), .int .i64 q] := by ((try simp only [List.map_toArray, List.map_cons, List.map_nil]); rfl)) : if Region.wanted oi (yielded ops a.tmps) = true then Oper.wp Try.prog oi a u K Q else K (a.put (some N) undef) u := by
  refine goes_ Try.func33 (by kernel_rfl) rfl _ hw hN hop hargs ?_
  refine (spec_l01Bytes.calls kk g c p t q xs p' t' w0 _ hS.1 hS.2.1 E.out).mono ?_
  rintro e v ⟨vd, rfl, ho, hi, hb, hk⟩
  obtain ⟨A, n, rfl⟩ := Kd.R_slice ho
  exact ⟨_, rfl, k v A n ho (hS.call n4.out hi hb hk) hk⟩
end
def spec_l05Packet.j1 (k : Nat) (x0 : Int) (x1 : Int) (x2 : Bool) (x3 : Bool) (x4 : Int) (x5 : Int) (x6 : Int) (x7 : Int) (x8 : Int) (c : List Int) (p t : Int) (ol dl : List Int) : Option (Int × Int × Bool × Bool × Int × Int × Int × Int × Int × List Int × List Int × Int × Int) := (spec_l01Next.f c p t 6).bind fun a => if a.1 = 0 then ((spec_l01Next.f c a.2.1 a.2.2 100).bind fun b => some (x0, x1, x2, true, wrap64 (8 * b.1), x5, x6, x7, x8, ol, dl, b.2.1, b.2.2)) else some (x0, x1, x2, x3, x4, x5, x6, x7, x8, ol, dl, a.2.1, a.2.2)
def spec_l05Packet.j0 (k : Nat) (x0 : Int) (x1 : Int) (x2 : Bool) (x3 : Bool) (x4 : Int) (x5 : Int) (x6 : Int) (x7 : Int) (x8 : Int) (c : List Int) (p t : Int) (dl : List Int) : Option (Int × Int × Bool × Bool × Int × Int × Int × Int × Int × List Int × List Int × Int × Int) := (spec_l01Next.f c p t 6).bind fun a => if a.1 = 0 then ((spec_l01Next.f c a.2.1 a.2.2 11).bind fun b => ((spec_l01Bytes.f k c b.2.1 b.2.2 (wrap64 (4 * b.1))).bind fun q => spec_l05Packet.j1 k x0 x1 x2 x3 x4 x5 x6 x7 x8 c q.2.1 q.2.2 q.1 dl)) else spec_l05Packet.j1 k x0 x1 x2 x3 x4 x5 x6 x7 x8 c a.2.1 a.2.2 [] dl
def spec_l05Packet.f (k : Nat) (c : List Int) (p t most : Int) : Option (Int × Int × Bool × Bool × Int × Int × Int × Int × Int × List Int × List Int × Int × Int) := ((spec_l01Next.f c p t 2).bind fun n1 => ((spec_l01Next.f c n1.2.1 n1.2.2 256).bind fun n2 => ((spec_l01Next.f c n2.2.1 n2.2.2 4).bind fun n3 => ((spec_l01Next.f c n3.2.1 n3.2.2 4).bind fun n4 => ((spec_l01Next.f c n4.2.1 n4.2.2 64).bind fun n5 => ((spec_l01Next.f c n5.2.1 n5.2.2 4).bind fun n6 => ((spec_l02Host.f c n6.2.1 n6.2.2).bind fun n7 => ((spec_l02Host.f c n7.2.1 n7.2.2).bind fun n8 => ((spec_l01Next.f c n8.2.1 n8.2.2 (wrap64 (most + 1))).bind fun n9 => ((spec_l01Bytes.f k c n9.2.1 n9.2.2 n9.1).bind fun n10 => (if 0 ≤ n6.1 then (if n6.1 < 4 then (spec_l05Packet.j0 k (wrap64 (n1.1 * n2.1)) n3.1 (n4.1 == 0) false 0 (wrap64 (1 + n5.1)) (rd ([1, 6, 17, 99] : List Int) n6.1) n7.1 n8.1 c n10.2.1 n10.2.2 n10.1) else none) else none)))))))))))
theorem spec_l05Packet.j1.mono : ∀ y0 y1 y2 y3 y4 y5 y6 y7 y8 y9 aa ab ac ad k, LeO (spec_l05Packet.j1 k y0 y1 y2 y3 y4 y5 y6 y7 y8 y9 aa ab ac ad) (spec_l05Packet.j1 (k + 1) y0 y1 y2 y3 y4 y5 y6 y7 y8 y9 aa ab ac ad) := by
  intro y0 y1 y2 y3 y4 y5 y6 y7 y8 y9 aa ab ac ad k
  unfold spec_l05Packet.j1
  repeat' first
    | (with_reducible exact LeO.refl _)
    | (with_reducible exact LeO.none _)
    | (with_reducible refine LeO.ite ?_ ?_)
    | (with_reducible refine LeO.bind ?_ (fun _ => ?_))
theorem spec_l05Packet.j0.mono : ∀ y0 y1 y2 y3 y4 y5 y6 y7 y8 y9 aa ab ac k, LeO (spec_l05Packet.j0 k y0 y1 y2 y3 y4 y5 y6 y7 y8 y9 aa ab ac) (spec_l05Packet.j0 (k + 1) y0 y1 y2 y3 y4 y5 y6 y7 y8 y9 aa ab ac) := by
  intro y0 y1 y2 y3 y4 y5 y6 y7 y8 y9 aa ab ac k
  unfold spec_l05Packet.j0
  repeat' first
    | (with_reducible exact spec_l01Bytes.mono _ _ _ _ _)
    | (with_reducible exact spec_l05Packet.j1.mono _ _ _ _ _ _ _ _ _ _ _ _ _ _ _)
    | (with_reducible exact LeO.refl _)
    | (with_reducible exact LeO.none _)
    | (with_reducible refine LeO.ite ?_ ?_)
    | (with_reducible refine LeO.bind ?_ (fun _ => ?_))
theorem spec_l05Packet.mono : ∀ y0 y1 y2 y3 k, LeO (spec_l05Packet.f k y0 y1 y2 y3) (spec_l05Packet.f (k + 1) y0 y1 y2 y3) := by
  intro y0 y1 y2 y3 k
  unfold spec_l05Packet.f
  repeat' first
    | (with_reducible exact spec_l01Bytes.mono _ _ _ _ _)
    | (with_reducible exact spec_l05Packet.j0.mono _ _ _ _ _ _ _ _ _ _ _ _ _ _)
    | (with_reducible exact LeO.refl _)
    | (with_reducible exact LeO.none _)
    | (with_reducible refine LeO.ite ?_ ?_)
    | (with_reducible refine LeO.bind ?_ (fun _ => ?_))
def spec_l05Packet.T1 : Bool × List (List Nat × List Nat) := (true, [([], []), ([0], [0]), ([], []), ([2, 1], [2]), ([1, 3], [1, 3]), ([], []), ([5, 3], [5]), ([], []), ([7, 6], [7]), ([8], [8]), ([], []), ([10, 8], [10]), ([11], [11]), ([], []), ([], []), ([14, 11], [14]), ([13, 15], [13, 15]), ([16], [16]), ([], []), ([18, 15], [18]), ([], []), ([20, 19], [20]), ([], []), ([], []), ([], []), ([24], [24]), ([23, 25, 21], [23, 25]), ([22, 26, 26], [22, 26]), ([4, 6, 9, 12, 17, 19, 21, 27], [4, 6, 9, 12, 17, 19, 21, 27]), ([], []), ([29, 28, 27, 0, 1, 2, 3, 4, 5, 6, 7, 8, 9, 10, 11, 12, 13, 14, 15, 16, 17, 18, 19, 20, 21, 22, 23, 24, 25, 26, 27, 28, 29], [28, 29])])
def spec_l05Packet.B1 : List Nat := [0, 1, 0, 7, 15, 0, 47, 0, 239, 495, 0, 1519, 3567, 0, 0, 19951, 60911, 126447, 0, 314863, 0, 1887727, 0, 0, 0, 16777216, 62705135, 134008303, 268435455, 0, 1073741823]
theorem spec_l05Packet.tab1 : rtab .any (opsOf Try.f29 1) = spec_l05Packet.T1 := by kernel_rfl
theorem spec_l05Packet.bits1 : waitsOk spec_l05Packet.T1.2 spec_l05Packet.B1 = true := by kernel_rfl
def spec_l05Packet.m (b : Nat) : Array Bool := ((List.range 31).map fun i => b.testBit i).toArray
def spec_l05Packet.Bx (w0 w : World) (g g4 g5 : Nat) (u : World) : Prop := u.heap[g5]? = some (.cells #[.int .i64 0, .int .i64 0, .bool false, .bool false, .int .i64 0, .int .i64 0, .int .i64 0, .int .i64 0, .int .i64 0, .slice none 0 0, .slice none 0 0] 25 (0, 0)) ∧ w.heap.size ≤ g5 ∧ w0.heap.size ≤ g5 ∧ g5 ≠ g ∧ g4 ≠ g5
theorem spec_l05Packet.Bx.call {w0 w u v : World} {g g4 g5 : Nat} (h : spec_l05Packet.Bx w0 w g g4 g5 u) (hk : KeepBut u v g none) : spec_l05Packet.Bx w0 w g g4 g5 v := ⟨KeepBut.blk hk h.1 h.2.2.2.1 (by simp), h.2⟩
theorem spec_l05Packet.Bx.made {w0 w u v : World} {g g4 g5 : Nat} (h : spec_l05Packet.Bx w0 w g g4 g5 u) (hb : Below u.heap.size u v) : spec_l05Packet.Bx w0 w g g4 g5 v := ⟨blk_below h.1 hb, h.2⟩
theorem spec_l05Packet.bx {ops : Array Oper} {Q : Exit → Act → World → Prop} {oi : Oper} {a : Act} {K : Act → World → Prop} {w0 w u : World} {g : Nat} {c : List Int} {g4 : Nat} {p t : Int} (h : St w0 w g c g4 p t u) (hw : w0.heap.size ≤ w.heap.size) (k : ∀ g5 v, spec_l05Packet.Bx w0 w g g4 g5 v → Below u.heap.size u v → K (a.put oi.dst (.pointer (some ⟨g5, 0, none⟩))) v) (hd : oi.dst = some 5 := by rfl) (hn : Region.wanted oi (yielded ops a.tmps) = true := by rfl) (hrun : (execOp a.eval oi).run Try.prog u = .ok (.value (.pointer (some ⟨u.heap.size, 0, none⟩))) (u.alloc (.cells #[.int .i64 0, .int .i64 0, .bool false, .bool false, .int .i64 0, .int .i64 0, .int .i64 0, .int .i64 0, .int .i64 0, .slice none 0 0, .slice none 0 0] 25 (0, 0))) := by first | (go_simp; done) | (go_simp; rfl)) : if Region.wanted oi (yielded ops a.tmps) = true then Oper.wp Try.prog oi a u K Q else K (a.put oi.dst undef) u := by
  refine box_step hn hd hrun ?_
  intro g5 hg v hbox hb
  refine k g5 v ?_ hb
  subst hg
  exact ⟨hbox, keep_size h.2.2.1, Nat.le_trans hw (keep_size h.2.2.1), IsS61.fresh h.1 _ (Nat.le_refl _), Nat.ne_of_lt (blk_lt h.2.2.2)⟩
theorem spec_l05Packet.lit (w : World) (base : Nat) (ok : Nat → Prop) : Reps (Kd.M (Kd.int .i64) w base ok) 1 ([1, 6, 17, 99] : List Int) [.int .i64 1, .int .i64 6, .int .i64 17, .int .i64 99] := Reps.one (show Kd.M (Kd.int .i64) _ _ _ 1 [.int .i64 1] from rfl) (Reps.one (show Kd.M (Kd.int .i64) _ _ _ 6 [.int .i64 6] from rfl) (Reps.one (show Kd.M (Kd.int .i64) _ _ _ 17 [.int .i64 17] from rfl) (Reps.one (show Kd.M (Kd.int .i64) _ _ _ 99 [.int .i64 99] from rfl) (Reps.none _ _))))
theorem spec_l05Packet.li {ops : Array Oper} {Q : Exit → Act → World → Prop} {oi : Oper} {a : Act} {K : Act → World → Prop} {w0 w u : World} {g : Nat} {c : List Int} {g4 : Nat} {p t : Int} (h : St w0 w g c g4 p t u) (k : ∀ ad n v, Kd.R (Kd.int .i64) 2 v w.heap.size (fun _ => True) (.slice (some ad) 4 n) ([1, 6, 17, 99] : List Int) → Below u.heap.size u v → K (a.put oi.dst (.slice (some ad) 4 n)) v) (hd : oi.dst = some 19 := by rfl) (hn : Region.wanted oi (yielded ops a.tmps) = true := by rfl) (hrun : (execOp a.eval oi).run Try.prog u = .ok (.value (.slice (some ⟨u.heap.size, 0, none⟩) 4 4)) (u.alloc (.cells #[.int .i64 1, .int .i64 6, .int .i64 17, .int .i64 99] 2)) := by first | (go_simp; done) | (go_simp; rfl)) : if Region.wanted oi (yielded ops a.tmps) = true then Oper.wp Try.prog oi a u K Q else K (a.put oi.dst undef) u := by
  refine Kd.R_lit_step (Kd.int .i64) u.heap.size 2 hn hd (xs := ([1, 6, 17, 99] : List Int)) (inner := [.int .i64 1, .int .i64 6, .int .i64 17, .int .i64 99]) (ok := fun _ => True) (okp := fun _ => True) hrun (spec_l05Packet.lit _ _ _) (fun _ hk => hk) trivial (Below.refl _ _) (Nat.le_refl _) (by decide) ?_
  intro v1 v ho hb _ _
  replace ho := Kd.R_lower ho (keep_size h.2.2.1)
  obtain ⟨A, n, rfl⟩ := Kd.R_slice ho
  obtain ⟨ad, rfl, _⟩ := Kd.at_int (Kd.R_reads' ho).2.2 0 (by decide) (by decide)
  exact k ad n v ho hb
def spec_l05Packet.Post (g : Nat) (c : List Int) (r0 : Int) (r1 : Int) (r2 : Bool) (r3 : Bool) (r4 : Int) (r5 : Int) (r6 : Int) (r7 : Int) (r8 : Int) (r9 : List Int) (aa : List Int) (ab : Int) (ac : Int) (w0 w : World) (e : Ending) (w' : World) : Prop := ∃ v9_ v10_ : Value, e = .returned (.agg #[.int .i64 r0, .int .i64 r1, .bool r2, .bool r3, .int .i64 r4, .int .i64 r5, .int .i64 r6, .int .i64 r7, .int .i64 r8, v9_, v10_]) ∧ Kd.R (Kd.int .u8) 5 w' w.heap.size (fun k_ => some k_ ≠ (v10_ : Value).ownBlock) v9_ r9 ∧ Kd.R (Kd.int .u8) 5 w' w.heap.size (fun k_ => some k_ ≠ (v9_ : Value).ownBlock) v10_ aa ∧ IsS61 w0 w' g c ab ac ∧ Below w0.heap.size w0 w' ∧ KeepBut w w' g none
set_option maxHeartbeats 60000000 in
set_option maxRecDepth 100000 in
theorem spec_l05Packet.walk (k : Nat) (g : Nat) (c : List Int) (p t most : Int) (r0 : Int) (r1 : Int) (r2 : Bool) (r3 : Bool) (r4 : Int) (r5 : Int) (r6 : Int) (r7 : Int) (r8 : Int) (r9 : List Int) (ab : List Int) (ac : Int) (ad : Int) (w0 w : World) (hI : IsS61 w0 w g c p t) (hB : Below w0.heap.size w0 w) (h : spec_l05Packet.f k c p t most = some (r0, r1, r2, r3, r4, r5, r6, r7, r8, r9, ab, ac, ad)) :
    Calls Try.prog 29 #[.pointer (some ⟨g, 0, none⟩), .int .i64 most] w (spec_l05Packet.Post g c r0 r1 r2 r3 r4 r5 r6 r7 r8 r9 ab ac ad w0 w) := by
 have hu25 := Try.underlying25
 have HI := Aside0.mk hI
 have HK := Aside0.mk (KeepBut.refl w g none)
 have HW0 := Aside0.mk hB.size
 have HB := Aside0.mk hB
 clear hI hB
 have H : spec_l05Packet.f k c p t most = some (r0, r1, r2, r3, r4, r5, r6, r7, r8, r9, ab, ac, ad) := h
 clear h
 unfold spec_l05Packet.f at H
 replace H := Option.bind_eq_some_iff.mp H
 obtain ⟨⟨n1, p1, t1⟩, A, H⟩ := H
 dsimp only at A H
 have E1 := Aside0.mk A
 clear A
 replace H := Option.bind_eq_some_iff.mp H
 obtain ⟨⟨n2, p2, t2⟩, A, H⟩ := H
 dsimp only at A H
 have E2 := Aside0.mk A
 clear A
 replace H := Option.bind_eq_some_iff.mp H
 obtain ⟨⟨n3, p3, t3⟩, A, H⟩ := H
 dsimp only at A H
 have E3 := Aside0.mk A
 clear A
 replace H := Option.bind_eq_some_iff.mp H
 obtain ⟨⟨n4, p4, t4⟩, A, H⟩ := H
 dsimp only at A H
 have E4 := Aside0.mk A
 clear A
 replace H := Option.bind_eq_some_iff.mp H
 obtain ⟨⟨n5, p5, t5⟩, A, H⟩ := H
 dsimp only at A H
 have E5 := Aside0.mk A
 clear A
 replace H := Option.bind_eq_some_iff.mp H
 obtain ⟨⟨n6, p6, t6⟩, A, H⟩ := H
 dsimp only at A H
 have E6 := Aside0.mk A
 clear A
 replace H := Option.bind_eq_some_iff.mp H
 obtain ⟨⟨n7, p7, t7⟩, A, H⟩ := H
 dsimp only at A H
 have E7 := Aside0.mk A
 clear A
 replace H := Option.bind_eq_some_iff.mp H
 obtain ⟨⟨n8, p8, t8⟩, A, H⟩ := H
 dsimp only at A H
 have E8 := Aside0.mk A
 clear A
 replace H := Option.bind_eq_some_iff.mp H
 obtain ⟨⟨n9, p9, t9⟩, A, H⟩ := H
 dsimp only at A H
 have E9 := Aside0.mk A
 clear A
 replace H := Option.bind_eq_some_iff.mp H
 obtain ⟨⟨dl, p10, aa⟩, A, H⟩ := H
 dsimp only at A H
 have E10 := Aside0.mk A
 clear A
 by_cases b1 : 0 ≤ n6
 rotate_left
 · rw [if_neg b1] at H
   cases H
 rw [if_pos b1] at H
 by_cases b2 : n6 < 4
 rotate_left
 · rw [if_neg b2] at H
   cases H
 rw [if_pos b2] at H
 have HJ := Aside0.mk H
 clear H
 go_enter Try.func29, Try.ntmps29
 go_upto_region 1 with (first | ((with_reducible refine gate_dst (N := 4) rfl ?_); refine boxE 4 #[.int .i64 0, .int .i64 0, .bool false, .bool false, .int .i64 0, .int .i64 0, .int .i64 0, .int .i64 0, .int .i64 0, .slice none 0 0, .slice none 0 0] 25 ?_; intro g4 hg v1 hbox hb; have K4 := Aside0.mk hbox; have G4 := Aside0.mk ((by rw [hg]; exact keep_size HK.out) : w.heap.size ≤ g4); have X4 := Aside0.mk ((Nat.le_trans HW0.out (by rw [hg]; exact keep_size HK.out)) : w0.heap.size ≤ g4); have N4 := Aside0.mk (IsS61.fresh HI.out g4 (Nat.le_of_eq hg.symm)); replace HI := Aside0.mk (IsS61.below HI.out hb); replace HK := Aside0.mk (KeepBut.trans HK.out (KeepBut.of_below hb g none) (.inl rfl)); replace HB := Aside0.mk (below_step HB.out hb); clear hb hbox hg))
 refine start_ (n := 31) (S := fun w' => True) (ds := []) (spec_l05Packet.m 0) (by kernel_rfl) rfl rfl trivial (fun hHeld => ?_)
 refine with_tabW spec_l05Packet.tab1 spec_l05Packet.bits1 (fun HT_ HW_ => ?_)
 have S : St w0 w g c g4 p t v1.drew := ⟨IsS61.drew HI.out, below_drew1 HB.out, keep_drew HK.out, blk_drew K4.out⟩
 clear HI HB HK K4 hHeld
 generalize v1.drew = u0 at S ⊢
 refine pu_ HT_ 0 6 (spec_l05Packet.m 1) ?_
 refine pu_ HT_ 2 8 (spec_l05Packet.m 5) ?_
 refine pu_ HT_ 5 11 (spec_l05Packet.m 37) ?_
 refine pu_ HT_ 7 13 (spec_l05Packet.m 165) ?_
 refine pu_ HT_ 10 16 (spec_l05Packet.m 1189) ?_
 refine pu_ HT_ 14 20 (spec_l05Packet.m 17573) ?_
 refine pu_ HT_ 18 24 (spec_l05Packet.m 279717) ?_
 refine pu_ HT_ 20 26 (spec_l05Packet.m 1328293) ?_
 refine pu_ HT_ 22 28 (spec_l05Packet.m 5522597) ?_
 refine pu_ HT_ 23 29 (spec_l05Packet.m 13911205) ?_
 refine pu_ HT_ 24 30 (spec_l05Packet.m 30688421) ?_
 refine pu_ HT_ 25 31 (spec_l05Packet.m 64242853) ?_
 refine join_ (σ := Nat × Addr × Nat × Option Addr × Nat) 1 (spec_l05Packet.m 1073741823) (fun s_ => [(7, .int .i64 n1), (9, .int .i64 n2), (10, .int .i64 (wrap64 (n1 * n2))), (12, .int .i64 n3), (14, .int .i64 n4), (15, .bool (n4 == 0)), (17, .int .i64 n5), (18, .int .i64 (wrap64 (1 + n5))), (19, .slice (some s_.2.1) 4 s_.2.2.1), (21, .int .i64 n6), (22, .pointer (some (s_.2.1.add (n6).toNat))), (23, .int .i64 (rd ([1, 6, 17, 99] : List Int) n6)), (25, .int .i64 n7), (27, .int .i64 n8), (32, .int .i64 n9), (33, .slice s_.2.2.2.1 dl.length s_.2.2.2.2), (34, .agg #[.int .i64 (wrap64 (n1 * n2)), .int .i64 n3, .bool (n4 == 0), .bool false, .int .i64 0, .int .i64 (wrap64 (1 + n5)), .int .i64 (rd ([1, 6, 17, 99] : List Int) n6), .int .i64 n7, .int .i64 n8, .slice none 0 0, .slice s_.2.2.2.1 dl.length s_.2.2.2.2]), (5, .pointer (some ⟨s_.1, 0, none⟩))]) (fun s_ w' => St w0 w g c g4 p10 aa w' ∧ spec_l05Packet.Bx w0 w g g4 s_.1 w' ∧ Kd.R (Kd.int .u8) 5 w' w.heap.size (fun _ => True) (.slice s_.2.2.2.1 dl.length s_.2.2.2.2) dl) ?_ ?_
 rotate_left
 intro j53
 refine join_ (σ := Nat × Addr × Nat × Option Addr × Nat) 3 (spec_l05Packet.m 805175295) (fun s_ => [(7, .int .i64 n1), (9, .int .i64 n2), (10, .int .i64 (wrap64 (n1 * n2))), (12, .int .i64 n3), (14, .int .i64 n4), (15, .bool (n4 == 0)), (17, .int .i64 n5), (18, .int .i64 (wrap64 (1 + n5))), (19, .slice (some s_.2.1) 4 s_.2.2.1), (21, .int .i64 n6), (22, .pointer (some (s_.2.1.add (n6).toNat))), (25, .int .i64 n7), (27, .int .i64 n8), (32, .int .i64 n9), (33, .slice s_.2.2.2.1 dl.length s_.2.2.2.2), (5, .pointer (some ⟨s_.1, 0, none⟩))]) (fun s_ w' => St w0 w g c g4 p10 aa w' ∧ spec_l05Packet.Bx w0 w g g4 s_.1 w' ∧ Kd.R (Kd.int .i64) 2 w' w.heap.size (fun _ => True) (.slice (some s_.2.1) 4 s_.2.2.1) ([1, 6, 17, 99] : List Int) ∧ Kd.R (Kd.int .u8) 5 w' w.heap.size (fun _ => True) (.slice s_.2.2.2.1 dl.length s_.2.2.2.2) dl) ?_ ?_
 rotate_left
 intro j52
 refine join_ (σ := Nat × Addr × Nat) 3 (spec_l05Packet.m 671088639) (fun s_ => [(7, .int .i64 n1), (9, .int .i64 n2), (10, .int .i64 (wrap64 (n1 * n2))), (12, .int .i64 n3), (14, .int .i64 n4), (15, .bool (n4 == 0)), (17, .int .i64 n5), (18, .int .i64 (wrap64 (1 + n5))), (19, .slice (some s_.2.1) 4 s_.2.2), (21, .int .i64 n6), (22, .pointer (some (s_.2.1.add (n6).toNat))), (23, .int .i64 (rd ([1, 6, 17, 99] : List Int) n6)), (25, .int .i64 n7), (27, .int .i64 n8), (32, .int .i64 n9), (5, .pointer (some ⟨s_.1, 0, none⟩))]) (fun s_ w' => St w0 w g c g4 p9 t9 w' ∧ spec_l05Packet.Bx w0 w g g4 s_.1 w') ?_ ?_
 rotate_left
 intro j51
 refine join_ (σ := Addr × Nat × Option Addr × Nat) 2 (spec_l05Packet.m 536870911) (fun s_ => [(7, .int .i64 n1), (9, .int .i64 n2), (10, .int .i64 (wrap64 (n1 * n2))), (12, .int .i64 n3), (14, .int .i64 n4), (15, .bool (n4 == 0)), (17, .int .i64 n5), (18, .int .i64 (wrap64 (1 + n5))), (19, .slice (some s_.1) 4 s_.2.1), (21, .int .i64 n6), (22, .pointer (some (s_.1.add (n6).toNat))), (23, .int .i64 (rd ([1, 6, 17, 99] : List Int) n6)), (25, .int .i64 n7), (27, .int .i64 n8), (32, .int .i64 n9), (33, .slice s_.2.2.1 dl.length s_.2.2.2), (34, .agg #[.int .i64 (wrap64 (n1 * n2)), .int .i64 n3, .bool (n4 == 0), .bool false, .int .i64 0, .int .i64 (wrap64 (1 + n5)), .int .i64 (rd ([1, 6, 17, 99] : List Int) n6), .int .i64 n7, .int .i64 n8, .slice none 0 0, .slice s_.2.2.1 dl.length s_.2.2.2])]) (fun s_ w' => St w0 w g c g4 p10 aa w' ∧ Kd.R (Kd.int .u8) 5 w' w.heap.size (fun _ => True) (.slice s_.2.2.1 dl.length s_.2.2.2) dl) ?_ ?_
 rotate_left
 intro j50
 refine join_ (σ := Nat × Option Addr × Nat) 5 (spec_l05Packet.m 805101567) (fun s_ => [(7, .int .i64 n1), (9, .int .i64 n2), (10, .int .i64 (wrap64 (n1 * n2))), (12, .int .i64 n3), (14, .int .i64 n4), (15, .bool (n4 == 0)), (17, .int .i64 n5), (18, .int .i64 (wrap64 (1 + n5))), (21, .int .i64 n6), (25, .int .i64 n7), (27, .int .i64 n8), (32, .int .i64 n9), (33, .slice s_.2.1 dl.length s_.2.2), (5, .pointer (some ⟨s_.1, 0, none⟩))]) (fun s_ w' => St w0 w g c g4 p10 aa w' ∧ spec_l05Packet.Bx w0 w g g4 s_.1 w' ∧ Kd.R (Kd.int .u8) 5 w' w.heap.size (fun _ => True) (.slice s_.2.1 dl.length s_.2.2) dl) ?_ ?_
 rotate_left
 intro j49
 refine join_ (σ := Nat × Addr × Nat) 4 (spec_l05Packet.m 670957567) (fun s_ => [(7, .int .i64 n1), (9, .int .i64 n2), (10, .int .i64 (wrap64 (n1 * n2))), (12, .int .i64 n3), (14, .int .i64 n4), (15, .bool (n4 == 0)), (17, .int .i64 n5), (18, .int .i64 (wrap64 (1 + n5))), (19, .slice (some s_.2.1) 4 s_.2.2), (21, .int .i64 n6), (22, .pointer (some (s_.2.1.add (n6).toNat))), (25, .int .i64 n7), (27, .int .i64 n8), (32, .int .i64 n9), (5, .pointer (some ⟨s_.1, 0, none⟩))]) (fun s_ w' => St w0 w g c g4 p9 t9 w' ∧ spec_l05Packet.Bx w0 w g g4 s_.1 w' ∧ Kd.R (Kd.int .i64) 2 w' w.heap.size (fun _ => True) (.slice (some s_.2.1) 4 s_.2.2) ([1, 6, 17, 99] : List Int)) ?_ ?_
 rotate_left
 intro j48
 refine join_ (σ := Addr × Nat × Option Addr × Nat) 4 (spec_l05Packet.m 268304383) (fun s_ => [(7, .int .i64 n1), (9, .int .i64 n2), (10, .int .i64 (wrap64 (n1 * n2))), (12, .int .i64 n3), (14, .int .i64 n4), (15, .bool (n4 == 0)), (17, .int .i64 n5), (18, .int .i64 (wrap64 (1 + n5))), (19, .slice (some s_.1) 4 s_.2.1), (21, .int .i64 n6), (22, .pointer (some (s_.1.add (n6).toNat))), (25, .int .i64 n7), (27, .int .i64 n8), (32, .int .i64 n9), (33, .slice s_.2.2.1 dl.length s_.2.2.2)]) (fun s_ w' => St w0 w g c g4 p10 aa w' ∧ Kd.R (Kd.int .i64) 2 w' w.heap.size (fun _ => True) (.slice (some s_.1) 4 s_.2.1) ([1, 6, 17, 99] : List Int) ∧ Kd.R (Kd.int .u8) 5 w' w.heap.size (fun _ => True) (.slice s_.2.2.1 dl.length s_.2.2.2) dl) ?_ ?_
 rotate_left
 intro j47
 refine join_ (σ := Nat × Addr × Nat) 4 (spec_l05Packet.m 603979775) (fun s_ => [(7, .int .i64 n1), (9, .int .i64 n2), (10, .int .i64 (wrap64 (n1 * n2))), (12, .int .i64 n3), (14, .int .i64 n4), (15, .bool (n4 == 0)), (17, .int .i64 n5), (18, .int .i64 (wrap64 (1 + n5))), (19, .slice (some s_.2.1) 4 s_.2.2), (21, .int .i64 n6), (22, .pointer (some (s_.2.1.add (n6).toNat))), (23, .int .i64 (rd ([1, 6, 17, 99] : List Int) n6)), (25, .int .i64 n7), (27, .int .i64 n8), (5, .pointer (some ⟨s_.1, 0, none⟩))]) (fun s_ w' => St w0 w g c g4 p8 t8 w' ∧ spec_l05Packet.Bx w0 w g g4 s_.1 w') ?_ ?_
 rotate_left
 intro j46
 refine join_ (σ := Addr × Nat) 4 (spec_l05Packet.m 134217727) (fun s_ => [(7, .int .i64 n1), (9, .int .i64 n2), (10, .int .i64 (wrap64 (n1 * n2))), (12, .int .i64 n3), (14, .int .i64 n4), (15, .bool (n4 == 0)), (17, .int .i64 n5), (18, .int .i64 (wrap64 (1 + n5))), (19, .slice (some s_.1) 4 s_.2), (21, .int .i64 n6), (22, .pointer (some (s_.1.add (n6).toNat))), (23, .int .i64 (rd ([1, 6, 17, 99] : List Int) n6)), (25, .int .i64 n7), (27, .int .i64 n8), (32, .int .i64 n9)]) (fun s_ w' => St w0 w g c g4 p9 t9 w') ?_ ?_
 rotate_left
 intro j45
 refine join_ (σ := Nat) 6 (spec_l05Packet.m 670883839) (fun s_ => [(7, .int .i64 n1), (9, .int .i64 n2), (10, .int .i64 (wrap64 (n1 * n2))), (12, .int .i64 n3), (14, .int .i64 n4), (15, .bool (n4 == 0)), (17, .int .i64 n5), (18, .int .i64 (wrap64 (1 + n5))), (21, .int .i64 n6), (25, .int .i64 n7), (27, .int .i64 n8), (32, .int .i64 n9), (5, .pointer (some ⟨s_, 0, none⟩))]) (fun s_ w' => St w0 w g c g4 p9 t9 w' ∧ spec_l05Packet.Bx w0 w g g4 s_ w') ?_ ?_
 rotate_left
 intro j44
 refine join_ (σ := Option Addr × Nat) 6 (spec_l05Packet.m 268230655) (fun s_ => [(7, .int .i64 n1), (9, .int .i64 n2), (10, .int .i64 (wrap64 (n1 * n2))), (12, .int .i64 n3), (14, .int .i64 n4), (15, .bool (n4 == 0)), (17, .int .i64 n5), (18, .int .i64 (wrap64 (1 + n5))), (21, .int .i64 n6), (25, .int .i64 n7), (27, .int .i64 n8), (32, .int .i64 n9), (33, .slice s_.1 dl.length s_.2)]) (fun s_ w' => St w0 w g c g4 p10 aa w' ∧ Kd.R (Kd.int .u8) 5 w' w.heap.size (fun _ => True) (.slice s_.1 dl.length s_.2) dl) ?_ ?_
 rotate_left
 intro j43
 refine join_ (σ := Nat × Addr × Nat) 5 (spec_l05Packet.m 603848703) (fun s_ => [(7, .int .i64 n1), (9, .int .i64 n2), (10, .int .i64 (wrap64 (n1 * n2))), (12, .int .i64 n3), (14, .int .i64 n4), (15, .bool (n4 == 0)), (17, .int .i64 n5), (18, .int .i64 (wrap64 (1 + n5))), (19, .slice (some s_.2.1) 4 s_.2.2), (21, .int .i64 n6), (22, .pointer (some (s_.2.1.add (n6).toNat))), (25, .int .i64 n7), (27, .int .i64 n8), (5, .pointer (some ⟨s_.1, 0, none⟩))]) (fun s_ w' => St w0 w g c g4 p8 t8 w' ∧ spec_l05Packet.Bx w0 w g g4 s_.1 w' ∧ Kd.R (Kd.int .i64) 2 w' w.heap.size (fun _ => True) (.slice (some s_.2.1) 4 s_.2.2) ([1, 6, 17, 99] : List Int)) ?_ ?_
 rotate_left
 intro j42
 refine join_ (σ := Addr × Nat) 5 (spec_l05Packet.m 134086655) (fun s_ => [(7, .int .i64 n1), (9, .int .i64 n2), (10, .int .i64 (wrap64 (n1 * n2))), (12, .int .i64 n3), (14, .int .i64 n4), (15, .bool (n4 == 0)), (17, .int .i64 n5), (18, .int .i64 (wrap64 (1 + n5))), (19, .slice (some s_.1) 4 s_.2), (21, .int .i64 n6), (22, .pointer (some (s_.1.add (n6).toNat))), (25, .int .i64 n7), (27, .int .i64 n8), (32, .int .i64 n9)]) (fun s_ w' => St w0 w g c g4 p9 t9 w' ∧ Kd.R (Kd.int .i64) 2 w' w.heap.size (fun _ => True) (.slice (some s_.1) 4 s_.2) ([1, 6, 17, 99] : List Int)) ?_ ?_
 rotate_left
 intro j41
 refine join_ (σ := Nat × Addr × Nat) 5 (spec_l05Packet.m 601882623) (fun s_ => [(7, .int .i64 n1), (9, .int .i64 n2), (10, .int .i64 (wrap64 (n1 * n2))), (12, .int .i64 n3), (14, .int .i64 n4), (15, .bool (n4 == 0)), (17, .int .i64 n5), (18, .int .i64 (wrap64 (1 + n5))), (19, .slice (some s_.2.1) 4 s_.2.2), (21, .int .i64 n6), (22, .pointer (some (s_.2.1.add (n6).toNat))), (23, .int .i64 (rd ([1, 6, 17, 99] : List Int) n6)), (25, .int .i64 n7), (5, .pointer (some ⟨s_.1, 0, none⟩))]) (fun s_ w' => St w0 w g c g4 p7 t7 w' ∧ spec_l05Packet.Bx w0 w g g4 s_.1 w') ?_ ?_
 rotate_left
 intro j40
 refine join_ (σ := Addr × Nat) 5 (spec_l05Packet.m 67108863) (fun s_ => [(7, .int .i64 n1), (9, .int .i64 n2), (10, .int .i64 (wrap64 (n1 * n2))), (12, .int .i64 n3), (14, .int .i64 n4), (15, .bool (n4 == 0)), (17, .int .i64 n5), (18, .int .i64 (wrap64 (1 + n5))), (19, .slice (some s_.1) 4 s_.2), (21, .int .i64 n6), (22, .pointer (some (s_.1.add (n6).toNat))), (23, .int .i64 (rd ([1, 6, 17, 99] : List Int) n6)), (25, .int .i64 n7), (27, .int .i64 n8)]) (fun s_ w' => St w0 w g c g4 p8 t8 w') ?_ ?_
 rotate_left
 intro j39
 refine join_ (σ := Nat) 7 (spec_l05Packet.m 603774975) (fun s_ => [(7, .int .i64 n1), (9, .int .i64 n2), (10, .int .i64 (wrap64 (n1 * n2))), (12, .int .i64 n3), (14, .int .i64 n4), (15, .bool (n4 == 0)), (17, .int .i64 n5), (18, .int .i64 (wrap64 (1 + n5))), (21, .int .i64 n6), (25, .int .i64 n7), (27, .int .i64 n8), (5, .pointer (some ⟨s_, 0, none⟩))]) (fun s_ w' => St w0 w g c g4 p8 t8 w' ∧ spec_l05Packet.Bx w0 w g g4 s_ w') ?_ ?_
 rotate_left
 intro j38
 refine join_ (σ := Unit) 7 (spec_l05Packet.m 134012927) (fun s_ => [(7, .int .i64 n1), (9, .int .i64 n2), (10, .int .i64 (wrap64 (n1 * n2))), (12, .int .i64 n3), (14, .int .i64 n4), (15, .bool (n4 == 0)), (17, .int .i64 n5), (18, .int .i64 (wrap64 (1 + n5))), (21, .int .i64 n6), (25, .int .i64 n7), (27, .int .i64 n8), (32, .int .i64 n9)]) (fun s_ w' => St w0 w g c g4 p9 t9 w') ?_ ?_
 rotate_left
 intro j37
 refine join_ (σ := Nat × Addr × Nat) 6 (spec_l05Packet.m 601751551) (fun s_ => [(7, .int .i64 n1), (9, .int .i64 n2), (10, .int .i64 (wrap64 (n1 * n2))), (12, .int .i64 n3), (14, .int .i64 n4), (15, .bool (n4 == 0)), (17, .int .i64 n5), (18, .int .i64 (wrap64 (1 + n5))), (19, .slice (some s_.2.1) 4 s_.2.2), (21, .int .i64 n6), (22, .pointer (some (s_.2.1.add (n6).toNat))), (25, .int .i64 n7), (5, .pointer (some ⟨s_.1, 0, none⟩))]) (fun s_ w' => St w0 w g c g4 p7 t7 w' ∧ spec_l05Packet.Bx w0 w g g4 s_.1 w' ∧ Kd.R (Kd.int .i64) 2 w' w.heap.size (fun _ => True) (.slice (some s_.2.1) 4 s_.2.2) ([1, 6, 17, 99] : List Int)) ?_ ?_
 rotate_left
 intro j36
 refine join_ (σ := Addr × Nat) 6 (spec_l05Packet.m 66977791) (fun s_ => [(7, .int .i64 n1), (9, .int .i64 n2), (10, .int .i64 (wrap64 (n1 * n2))), (12, .int .i64 n3), (14, .int .i64 n4), (15, .bool (n4 == 0)), (17, .int .i64 n5), (18, .int .i64 (wrap64 (1 + n5))), (19, .slice (some s_.1) 4 s_.2), (21, .int .i64 n6), (22, .pointer (some (s_.1.add (n6).toNat))), (25, .int .i64 n7), (27, .int .i64 n8)]) (fun s_ w' => St w0 w g c g4 p8 t8 w' ∧ Kd.R (Kd.int .i64) 2 w' w.heap.size (fun _ => True) (.slice (some s_.1) 4 s_.2) ([1, 6, 17, 99] : List Int)) ?_ ?_
 rotate_left
 intro j35
 refine join_ (σ := Nat × Addr × Nat) 6 (spec_l05Packet.m 601358335) (fun s_ => [(7, .int .i64 n1), (9, .int .i64 n2), (10, .int .i64 (wrap64 (n1 * n2))), (12, .int .i64 n3), (14, .int .i64 n4), (15, .bool (n4 == 0)), (17, .int .i64 n5), (18, .int .i64 (wrap64 (1 + n5))), (19, .slice (some s_.2.1) 4 s_.2.2), (21, .int .i64 n6), (22, .pointer (some (s_.2.1.add (n6).toNat))), (23, .int .i64 (rd ([1, 6, 17, 99] : List Int) n6)), (5, .pointer (some ⟨s_.1, 0, none⟩))]) (fun s_ w' => St w0 w g c g4 p6 t6 w' ∧ spec_l05Packet.Bx w0 w g g4 s_.1 w') ?_ ?_
 rotate_left
 intro j34
 refine join_ (σ := Addr × Nat) 6 (spec_l05Packet.m 65011711) (fun s_ => [(7, .int .i64 n1), (9, .int .i64 n2), (10, .int .i64 (wrap64 (n1 * n2))), (12, .int .i64 n3), (14, .int .i64 n4), (15, .bool (n4 == 0)), (17, .int .i64 n5), (18, .int .i64 (wrap64 (1 + n5))), (19, .slice (some s_.1) 4 s_.2), (21, .int .i64 n6), (22, .pointer (some (s_.1.add (n6).toNat))), (23, .int .i64 (rd ([1, 6, 17, 99] : List Int) n6)), (25, .int .i64 n7)]) (fun s_ w' => St w0 w g c g4 p7 t7 w') ?_ ?_
 rotate_left
 intro j33
 refine join_ (σ := Nat) 8 (spec_l05Packet.m 601677823) (fun s_ => [(7, .int .i64 n1), (9, .int .i64 n2), (10, .int .i64 (wrap64 (n1 * n2))), (12, .int .i64 n3), (14, .int .i64 n4), (15, .bool (n4 == 0)), (17, .int .i64 n5), (18, .int .i64 (wrap64 (1 + n5))), (21, .int .i64 n6), (25, .int .i64 n7), (5, .pointer (some ⟨s_, 0, none⟩))]) (fun s_ w' => St w0 w g c g4 p7 t7 w' ∧ spec_l05Packet.Bx w0 w g g4 s_ w') ?_ ?_
 rotate_left
 intro j32
 refine join_ (σ := Unit) 8 (spec_l05Packet.m 66904063) (fun s_ => [(7, .int .i64 n1), (9, .int .i64 n2), (10, .int .i64 (wrap64 (n1 * n2))), (12, .int .i64 n3), (14, .int .i64 n4), (15, .bool (n4 == 0)), (17, .int .i64 n5), (18, .int .i64 (wrap64 (1 + n5))), (21, .int .i64 n6), (25, .int .i64 n7), (27, .int .i64 n8)]) (fun s_ w' => St w0 w g c g4 p8 t8 w') ?_ ?_
 rotate_left
 intro j31
 refine join_ (σ := Nat × Addr × Nat) 7 (spec_l05Packet.m 601227263) (fun s_ => [(7, .int .i64 n1), (9, .int .i64 n2), (10, .int .i64 (wrap64 (n1 * n2))), (12, .int .i64 n3), (14, .int .i64 n4), (15, .bool (n4 == 0)), (17, .int .i64 n5), (18, .int .i64 (wrap64 (1 + n5))), (19, .slice (some s_.2.1) 4 s_.2.2), (21, .int .i64 n6), (22, .pointer (some (s_.2.1.add (n6).toNat))), (5, .pointer (some ⟨s_.1, 0, none⟩))]) (fun s_ w' => St w0 w g c g4 p6 t6 w' ∧ spec_l05Packet.Bx w0 w g g4 s_.1 w' ∧ Kd.R (Kd.int .i64) 2 w' w.heap.size (fun _ => True) (.slice (some s_.2.1) 4 s_.2.2) ([1, 6, 17, 99] : List Int)) ?_ ?_
 rotate_left
 intro j30
 refine join_ (σ := Addr × Nat) 7 (spec_l05Packet.m 64880639) (fun s_ => [(7, .int .i64 n1), (9, .int .i64 n2), (10, .int .i64 (wrap64 (n1 * n2))), (12, .int .i64 n3), (14, .int .i64 n4), (15, .bool (n4 == 0)), (17, .int .i64 n5), (18, .int .i64 (wrap64 (1 + n5))), (19, .slice (some s_.1) 4 s_.2), (21, .int .i64 n6), (22, .pointer (some (s_.1.add (n6).toNat))), (25, .int .i64 n7)]) (fun s_ w' => St w0 w g c g4 p7 t7 w' ∧ Kd.R (Kd.int .i64) 2 w' w.heap.size (fun _ => True) (.slice (some s_.1) 4 s_.2) ([1, 6, 17, 99] : List Int)) ?_ ?_
 rotate_left
 intro j29
 refine join_ (σ := Addr × Nat) 7 (spec_l05Packet.m 64487423) (fun s_ => [(7, .int .i64 n1), (9, .int .i64 n2), (10, .int .i64 (wrap64 (n1 * n2))), (12, .int .i64 n3), (14, .int .i64 n4), (15, .bool (n4 == 0)), (17, .int .i64 n5), (18, .int .i64 (wrap64 (1 + n5))), (19, .slice (some s_.1) 4 s_.2), (21, .int .i64 n6), (22, .pointer (some (s_.1.add (n6).toNat))), (23, .int .i64 (rd ([1, 6, 17, 99] : List Int) n6))]) (fun s_ w' => St w0 w g c g4 p6 t6 w') ?_ ?_
 rotate_left
 intro j28
 refine join_ (σ := Nat) 9 (spec_l05Packet.m 601153535) (fun s_ => [(7, .int .i64 n1), (9, .int .i64 n2), (10, .int .i64 (wrap64 (n1 * n2))), (12, .int .i64 n3), (14, .int .i64 n4), (15, .bool (n4 == 0)), (17, .int .i64 n5), (18, .int .i64 (wrap64 (1 + n5))), (21, .int .i64 n6), (5, .pointer (some ⟨s_, 0, none⟩))]) (fun s_ w' => St w0 w g c g4 p6 t6 w' ∧ spec_l05Packet.Bx w0 w g g4 s_ w') ?_ ?_
 rotate_left
 intro j27
 refine join_ (σ := Unit) 9 (spec_l05Packet.m 64806911) (fun s_ => [(7, .int .i64 n1), (9, .int .i64 n2), (10, .int .i64 (wrap64 (n1 * n2))), (12, .int .i64 n3), (14, .int .i64 n4), (15, .bool (n4 == 0)), (17, .int .i64 n5), (18, .int .i64 (wrap64 (1 + n5))), (21, .int .i64 n6), (25, .int .i64 n7)]) (fun s_ w' => St w0 w g c g4 p7 t7 w') ?_ ?_
 rotate_left
 intro j26
 refine join_ (σ := Nat × Addr × Nat) 9 (spec_l05Packet.m 601128959) (fun s_ => [(7, .int .i64 n1), (9, .int .i64 n2), (10, .int .i64 (wrap64 (n1 * n2))), (12, .int .i64 n3), (14, .int .i64 n4), (15, .bool (n4 == 0)), (17, .int .i64 n5), (18, .int .i64 (wrap64 (1 + n5))), (19, .slice (some s_.2.1) 4 s_.2.2), (5, .pointer (some ⟨s_.1, 0, none⟩))]) (fun s_ w' => St w0 w g c g4 p5 t5 w' ∧ spec_l05Packet.Bx w0 w g g4 s_.1 w' ∧ Kd.R (Kd.int .i64) 2 w' w.heap.size (fun _ => True) (.slice (some s_.2.1) 4 s_.2.2) ([1, 6, 17, 99] : List Int)) ?_ ?_
 rotate_left
 intro j25
 refine join_ (σ := Addr × Nat) 8 (spec_l05Packet.m 64356351) (fun s_ => [(7, .int .i64 n1), (9, .int .i64 n2), (10, .int .i64 (wrap64 (n1 * n2))), (12, .int .i64 n3), (14, .int .i64 n4), (15, .bool (n4 == 0)), (17, .int .i64 n5), (18, .int .i64 (wrap64 (1 + n5))), (19, .slice (some s_.1) 4 s_.2), (21, .int .i64 n6), (22, .pointer (some (s_.1.add (n6).toNat)))]) (fun s_ w' => St w0 w g c g4 p6 t6 w' ∧ Kd.R (Kd.int .i64) 2 w' w.heap.size (fun _ => True) (.slice (some s_.1) 4 s_.2) ([1, 6, 17, 99] : List Int)) ?_ ?_
 rotate_left
 intro j24
 refine join_ (σ := Nat × Addr × Nat) 11 (spec_l05Packet.m 601122815) (fun s_ => [(7, .int .i64 n1), (9, .int .i64 n2), (10, .int .i64 (wrap64 (n1 * n2))), (12, .int .i64 n3), (14, .int .i64 n4), (15, .bool (n4 == 0)), (19, .slice (some s_.2.1) 4 s_.2.2), (5, .pointer (some ⟨s_.1, 0, none⟩))]) (fun s_ w' => St w0 w g c g4 p4 t4 w' ∧ spec_l05Packet.Bx w0 w g g4 s_.1 w' ∧ Kd.R (Kd.int .i64) 2 w' w.heap.size (fun _ => True) (.slice (some s_.2.1) 4 s_.2.2) ([1, 6, 17, 99] : List Int)) ?_ ?_
 rotate_left
 intro j23
 refine join_ (σ := Nat) 10 (spec_l05Packet.m 601120767) (fun s_ => [(7, .int .i64 n1), (9, .int .i64 n2), (10, .int .i64 (wrap64 (n1 * n2))), (12, .int .i64 n3), (14, .int .i64 n4), (15, .bool (n4 == 0)), (17, .int .i64 n5), (18, .int .i64 (wrap64 (1 + n5))), (5, .pointer (some ⟨s_, 0, none⟩))]) (fun s_ w' => St w0 w g c g4 p5 t5 w' ∧ spec_l05Packet.Bx w0 w g g4 s_ w') ?_ ?_
 rotate_left
 intro j22
 refine join_ (σ := Unit) 10 (spec_l05Packet.m 64282623) (fun s_ => [(7, .int .i64 n1), (9, .int .i64 n2), (10, .int .i64 (wrap64 (n1 * n2))), (12, .int .i64 n3), (14, .int .i64 n4), (15, .bool (n4 == 0)), (17, .int .i64 n5), (18, .int .i64 (wrap64 (1 + n5))), (21, .int .i64 n6)]) (fun s_ w' => St w0 w g c g4 p6 t6 w') ?_ ?_
 rotate_left
 intro j21
 refine join_ (σ := Addr × Nat) 10 (spec_l05Packet.m 64258047) (fun s_ => [(7, .int .i64 n1), (9, .int .i64 n2), (10, .int .i64 (wrap64 (n1 * n2))), (12, .int .i64 n3), (14, .int .i64 n4), (15, .bool (n4 == 0)), (17, .int .i64 n5), (18, .int .i64 (wrap64 (1 + n5))), (19, .slice (some s_.1) 4 s_.2)]) (fun s_ w' => St w0 w g c g4 p5 t5 w' ∧ Kd.R (Kd.int .i64) 2 w' w.heap.size (fun _ => True) (.slice (some s_.1) 4 s_.2) ([1, 6, 17, 99] : List Int)) ?_ ?_
 rotate_left
 intro j20
 refine join_ (σ := Nat × Addr × Nat) 13 (spec_l05Packet.m 601122047) (fun s_ => [(7, .int .i64 n1), (9, .int .i64 n2), (10, .int .i64 (wrap64 (n1 * n2))), (12, .int .i64 n3), (19, .slice (some s_.2.1) 4 s_.2.2), (5, .pointer (some ⟨s_.1, 0, none⟩))]) (fun s_ w' => St w0 w g c g4 p3 t3 w' ∧ spec_l05Packet.Bx w0 w g g4 s_.1 w' ∧ Kd.R (Kd.int .i64) 2 w' w.heap.size (fun _ => True) (.slice (some s_.2.1) 4 s_.2.2) ([1, 6, 17, 99] : List Int)) ?_ ?_
 rotate_left
 intro j19
 refine join_ (σ := Nat) 12 (spec_l05Packet.m 601114623) (fun s_ => [(7, .int .i64 n1), (9, .int .i64 n2), (10, .int .i64 (wrap64 (n1 * n2))), (12, .int .i64 n3), (14, .int .i64 n4), (15, .bool (n4 == 0)), (5, .pointer (some ⟨s_, 0, none⟩))]) (fun s_ w' => St w0 w g c g4 p4 t4 w' ∧ spec_l05Packet.Bx w0 w g g4 s_ w') ?_ ?_
 rotate_left
 intro j18
 refine join_ (σ := Addr × Nat) 12 (spec_l05Packet.m 64251903) (fun s_ => [(7, .int .i64 n1), (9, .int .i64 n2), (10, .int .i64 (wrap64 (n1 * n2))), (12, .int .i64 n3), (14, .int .i64 n4), (15, .bool (n4 == 0)), (19, .slice (some s_.1) 4 s_.2)]) (fun s_ w' => St w0 w g c g4 p4 t4 w' ∧ Kd.R (Kd.int .i64) 2 w' w.heap.size (fun _ => True) (.slice (some s_.1) 4 s_.2) ([1, 6, 17, 99] : List Int)) ?_ ?_
 rotate_left
 intro j17
 refine join_ (σ := Unit) 11 (spec_l05Packet.m 64249855) (fun s_ => [(7, .int .i64 n1), (9, .int .i64 n2), (10, .int .i64 (wrap64 (n1 * n2))), (12, .int .i64 n3), (14, .int .i64 n4), (15, .bool (n4 == 0)), (17, .int .i64 n5), (18, .int .i64 (wrap64 (1 + n5)))]) (fun s_ w' => St w0 w g c g4 p5 t5 w') ?_ ?_
 rotate_left
 intro j16
 refine join_ (σ := Nat × Addr × Nat) 14 (spec_l05Packet.m 601121983) (fun s_ => [(7, .int .i64 n1), (9, .int .i64 n2), (10, .int .i64 (wrap64 (n1 * n2))), (19, .slice (some s_.2.1) 4 s_.2.2), (5, .pointer (some ⟨s_.1, 0, none⟩))]) (fun s_ w' => St w0 w g c g4 p2 t2 w' ∧ spec_l05Packet.Bx w0 w g g4 s_.1 w' ∧ Kd.R (Kd.int .i64) 2 w' w.heap.size (fun _ => True) (.slice (some s_.2.1) 4 s_.2.2) ([1, 6, 17, 99] : List Int)) ?_ ?_
 rotate_left
 intro j15
 refine join_ (σ := Nat) 14 (spec_l05Packet.m 601113855) (fun s_ => [(7, .int .i64 n1), (9, .int .i64 n2), (10, .int .i64 (wrap64 (n1 * n2))), (12, .int .i64 n3), (5, .pointer (some ⟨s_, 0, none⟩))]) (fun s_ w' => St w0 w g c g4 p3 t3 w' ∧ spec_l05Packet.Bx w0 w g g4 s_ w') ?_ ?_
 rotate_left
 intro j14
 refine join_ (σ := Addr × Nat) 14 (spec_l05Packet.m 64251135) (fun s_ => [(7, .int .i64 n1), (9, .int .i64 n2), (10, .int .i64 (wrap64 (n1 * n2))), (12, .int .i64 n3), (19, .slice (some s_.1) 4 s_.2)]) (fun s_ w' => St w0 w g c g4 p3 t3 w' ∧ Kd.R (Kd.int .i64) 2 w' w.heap.size (fun _ => True) (.slice (some s_.1) 4 s_.2) ([1, 6, 17, 99] : List Int)) ?_ ?_
 rotate_left
 intro j13
 refine join_ (σ := Unit) 13 (spec_l05Packet.m 64243711) (fun s_ => [(7, .int .i64 n1), (9, .int .i64 n2), (10, .int .i64 (wrap64 (n1 * n2))), (12, .int .i64 n3), (14, .int .i64 n4), (15, .bool (n4 == 0))]) (fun s_ w' => St w0 w g c g4 p4 t4 w') ?_ ?_
 rotate_left
 intro j12
 refine join_ (σ := Nat × Addr × Nat) 16 (spec_l05Packet.m 601121959) (fun s_ => [(7, .int .i64 n1), (19, .slice (some s_.2.1) 4 s_.2.2), (5, .pointer (some ⟨s_.1, 0, none⟩))]) (fun s_ w' => St w0 w g c g4 p1 t1 w' ∧ spec_l05Packet.Bx w0 w g g4 s_.1 w' ∧ Kd.R (Kd.int .i64) 2 w' w.heap.size (fun _ => True) (.slice (some s_.2.1) 4 s_.2.2) ([1, 6, 17, 99] : List Int)) ?_ ?_
 rotate_left
 intro j11
 refine join_ (σ := Nat) 15 (spec_l05Packet.m 601113791) (fun s_ => [(7, .int .i64 n1), (9, .int .i64 n2), (10, .int .i64 (wrap64 (n1 * n2))), (5, .pointer (some ⟨s_, 0, none⟩))]) (fun s_ w' => St w0 w g c g4 p2 t2 w' ∧ spec_l05Packet.Bx w0 w g g4 s_ w') ?_ ?_
 rotate_left
 intro j10
 refine join_ (σ := Addr × Nat) 15 (spec_l05Packet.m 64251071) (fun s_ => [(7, .int .i64 n1), (9, .int .i64 n2), (10, .int .i64 (wrap64 (n1 * n2))), (19, .slice (some s_.1) 4 s_.2)]) (fun s_ w' => St w0 w g c g4 p2 t2 w' ∧ Kd.R (Kd.int .i64) 2 w' w.heap.size (fun _ => True) (.slice (some s_.1) 4 s_.2) ([1, 6, 17, 99] : List Int)) ?_ ?_
 rotate_left
 intro j9
 refine join_ (σ := Unit) 15 (spec_l05Packet.m 64242943) (fun s_ => [(7, .int .i64 n1), (9, .int .i64 n2), (10, .int .i64 (wrap64 (n1 * n2))), (12, .int .i64 n3)]) (fun s_ w' => St w0 w g c g4 p3 t3 w') ?_ ?_
 rotate_left
 intro j8
 refine join_ (σ := Nat × Addr × Nat) 17 (spec_l05Packet.m 601121957) (fun s_ => [(19, .slice (some s_.2.1) 4 s_.2.2), (5, .pointer (some ⟨s_.1, 0, none⟩))]) (fun s_ w' => St w0 w g c g4 p t w' ∧ spec_l05Packet.Bx w0 w g g4 s_.1 w' ∧ Kd.R (Kd.int .i64) 2 w' w.heap.size (fun _ => True) (.slice (some s_.2.1) 4 s_.2.2) ([1, 6, 17, 99] : List Int)) ?_ ?_
 rotate_left
 intro j7
 refine join_ (σ := Nat) 17 (spec_l05Packet.m 601113767) (fun s_ => [(7, .int .i64 n1), (5, .pointer (some ⟨s_, 0, none⟩))]) (fun s_ w' => St w0 w g c g4 p1 t1 w' ∧ spec_l05Packet.Bx w0 w g g4 s_ w') ?_ ?_
 rotate_left
 intro j6
 refine join_ (σ := Addr × Nat) 17 (spec_l05Packet.m 64251047) (fun s_ => [(7, .int .i64 n1), (19, .slice (some s_.1) 4 s_.2)]) (fun s_ w' => St w0 w g c g4 p1 t1 w' ∧ Kd.R (Kd.int .i64) 2 w' w.heap.size (fun _ => True) (.slice (some s_.1) 4 s_.2) ([1, 6, 17, 99] : List Int)) ?_ ?_
 rotate_left
 intro j5
 refine join_ (σ := Unit) 16 (spec_l05Packet.m 64242879) (fun s_ => [(7, .int .i64 n1), (9, .int .i64 n2), (10, .int .i64 (wrap64 (n1 * n2)))]) (fun s_ w' => St w0 w g c g4 p2 t2 w') ?_ ?_
 rotate_left
 intro j4
 refine join_ (σ := Nat) 18 (spec_l05Packet.m 601113765) (fun s_ => [(5, .pointer (some ⟨s_, 0, none⟩))]) (fun s_ w' => St w0 w g c g4 p t w' ∧ spec_l05Packet.Bx w0 w g g4 s_ w') ?_ ?_
 rotate_left
 intro j3
 refine join_ (σ := Addr × Nat) 18 (spec_l05Packet.m 64251045) (fun s_ => [(19, .slice (some s_.1) 4 s_.2)]) (fun s_ w' => St w0 w g c g4 p t w' ∧ Kd.R (Kd.int .i64) 2 w' w.heap.size (fun _ => True) (.slice (some s_.1) 4 s_.2) ([1, 6, 17, 99] : List Int)) ?_ ?_
 rotate_left
 intro j2
 refine join_ (σ := Unit) 18 (spec_l05Packet.m 64242855) (fun s_ => [(7, .int .i64 n1)]) (fun s_ w' => St w0 w g c g4 p1 t1 w') ?_ ?_
 rotate_left
 intro j1
 refine three_ (i := 1) (j := 13) (k := 29) (Ni := some 7) (Nj := some 19) (Nk := some 5) (spec_l05Packet.m 64242855) (spec_l05Packet.m 64251045) (spec_l05Packet.m 601113765) rfl rfl rfl rfl rfl rfl (three_of HT_.out (by kernel_rfl)) (by decide) (by decide) (by decide) (fun K hK => ?_) (fun K hK => ?_) (fun K hK => ?_)
 · skip
   refine nx_ S N4 E1 (fun v s k => hK.out _ _ trivial fun _ => ?_)
   exact nrm_ (j1 () _ s)
 · skip
   refine spec_l05Packet.li S (fun a9 c9 v L b => hK.out _ _ trivial fun _ => ?_)
   exact nrm_ (j2 (a9, c9) _ ⟨(S.made b), L⟩)
 · skip
   refine spec_l05Packet.bx S HW0.out (fun g5 v X b => hK.out _ _ trivial fun _ => ?_)
   exact nrm_ (j3 g5 _ ⟨(S.made b), X⟩)
 · clear S
   rintro ⟨g5, a9, c9, Ad, cd⟩ u ⟨S, X, D⟩
   refine pa_ ?_
   refine on_ HT_ 30 none (spec_l05Packet.m 2147483647) (fun K hK => ?_)
   have S0 := Aside0.mk S
   have GX := Aside0.mk X.2
   have K5 := Aside0.mk X.1
   have D_ := Aside0.mk D
   clear S X D
   have D := D_
   clear D_
   obtain ⟨⟨hczs_0, hczs_1, hczs_2, hczs_3, hczs_4, hczs_5, hczs_6, hczs_7, hczs_8, hczs_9, hczs_10⟩, hfzs_0, hfzs_1, hfzs_2, hfzs_3, hfzs_4, hfzs_5, hfzs_6, hfzs_7, hfzs_8, hfzs_9, hfzs_10⟩ := cells11 K5.out
   refine skip_ (w1 := put11 u g5 (.int .i64 (wrap64 (n1 * n2))) (.int .i64 n3) (.bool (n4 == 0)) (.bool false) (.int .i64 0) (.int .i64 (wrap64 (1 + n5))) (.int .i64 (rd ([1, 6, 17, 99] : List Int) n6)) (.int .i64 n7) (.int .i64 n8) (.slice none 0 0) (.slice Ad dl.length cd)) (by rfl) rfl ?_ ?_
   {
    first | (go_simp; done) | (go_simp; rfl)
   }
   have S_ := Aside0.mk (S0.out.put GX.out : St w0 w g c g4 p10 aa (put11 u g5 (.int .i64 (wrap64 (n1 * n2))) (.int .i64 n3) (.bool (n4 == 0)) (.bool false) (.int .i64 0) (.int .i64 (wrap64 (1 + n5))) (.int .i64 (rd ([1, 6, 17, 99] : List Int) n6)) (.int .i64 n7) (.int .i64 n8) (.slice none 0 0) (.slice Ad dl.length cd)))
   have D_ := Aside0.mk (row_put D.out K5.out : Kd.R (Kd.int .u8) 5 (put11 u g5 (.int .i64 (wrap64 (n1 * n2))) (.int .i64 n3) (.bool (n4 == 0)) (.bool false) (.int .i64 0) (.int .i64 (wrap64 (1 + n5))) (.int .i64 (rd ([1, 6, 17, 99] : List Int) n6)) (.int .i64 n7) (.int .i64 n8) (.slice none 0 0) (.slice Ad dl.length cd)) w.heap.size (fun _ => True) (.slice Ad dl.length cd) dl)
   have K5_ : Aside0 ((put11 u g5 (.int .i64 (wrap64 (n1 * n2))) (.int .i64 n3) (.bool (n4 == 0)) (.bool false) (.int .i64 0) (.int .i64 (wrap64 (1 + n5))) (.int .i64 (rd ([1, 6, 17, 99] : List Int) n6)) (.int .i64 n7) (.int .i64 n8) (.slice none 0 0) (.slice Ad dl.length cd)).heap[g5]? = some (.cells #[.int .i64 (wrap64 (n1 * n2)), .int .i64 n3, .bool (n4 == 0), .bool false, .int .i64 0, .int .i64 (wrap64 (1 + n5)), .int .i64 (rd ([1, 6, 17, 99] : List Int) n6), .int .i64 n7, .int .i64 n8, .slice none 0 0, .slice Ad dl.length cd] 25 (0, 0))) := ⟨set11 K5.out⟩
   generalize put11 u g5 (.int .i64 (wrap64 (n1 * n2))) (.int .i64 n3) (.bool (n4 == 0)) (.bool false) (.int .i64 0) (.int .i64 (wrap64 (1 + n5))) (.int .i64 (rd ([1, 6, 17, 99] : List Int) n6)) (.int .i64 n7) (.int .i64 n8) (.slice none 0 0) (.slice Ad dl.length cd) = w1 at S_ D_ K5_ ⊢
   clear S0 D K5
   have S := S_
   have D := D_
   have K5 := K5_
   clear S_ D_ K5_
   refine hK.out _ _ trivial (fun _ => ?_)
   clear hK K
   refine done_ (done_of HT_.out (by kernel_rfl)) ?_
   clear HT_ HW_ b1 b2
   clear hczs_0 hfzs_0 hczs_1 hfzs_1 hczs_2 hfzs_2 hczs_3 hfzs_3 hczs_4 hfzs_4 hczs_5 hfzs_5 hczs_6 hfzs_6 hczs_7 hfzs_7 hczs_8 hfzs_8 hczs_9 hfzs_9 hczs_10 hfzs_10
   obtain ⟨x0, hx0⟩ : ∃ x_ : Int, x_ = wrap64 (n1 * n2) := ⟨_, rfl⟩
   obtain ⟨x2, hx2⟩ : ∃ x_ : Bool, x_ = (n4 == 0) := ⟨_, rfl⟩
   obtain ⟨x5, hx5⟩ : ∃ x_ : Int, x_ = wrap64 (1 + n5) := ⟨_, rfl⟩
   obtain ⟨x6, hx6⟩ : ∃ x_ : Int, x_ = rd ([1, 6, 17, 99] : List Int) n6 := ⟨_, rfl⟩
   rw [← hx0, ← hx2, ← hx5, ← hx6] at K5 HJ
   clear hx0 hx2 hx5 hx6
   have H := HJ.out
   clear HJ
   unfold spec_l05Packet.j0 at H
   replace H := Option.bind_eq_some_iff.mp H
   obtain ⟨⟨m, pm, tm⟩, A, H⟩ := H
   dsimp only at A H
   have EA := Aside0.mk A
   clear A
   have HJ := Aside0.mk H
   clear H
   go_upto_if 37 with (first | ((with_reducible refine gate_callee (f := 30) rfl ?_); refine gL (some 36) Try.func30 #[.pointer (some ⟨g, 0, none⟩), .int .i64 6] ?_; (with_reducible refine (spec_l01Next.calls g c p10 aa 6 m pm tm w0 _ ?side1 ?side2 EA.out).mono ?_); (case side1 => exact St.i S); (case side2 => exact St.b S); rintro e wa ⟨rfl, hi, hb, hk⟩; refine ⟨_, rfl, ?_⟩; replace K5 := Aside0.mk (KeepBut.blk hk K5.out GX.out.2.2.1 (by simp)); replace D := Aside0.mk (S.out.row D.out hk); replace S := Aside0.mk (S.out.call N4.out hi hb hk); clear hi hb hk; skip))
   (try simp only [Act.put, List.setIfInBounds_toArray, List.set_cons_zero, List.set_cons_succ])
   go_cut [] (fun wc => ∃ (p_ t_ : Int) (Ao : Option Addr) (co : Nat) (ol : List Int), Aside0 (spec_l05Packet.j1 k x0 n3 x2 false 0 x5 x6 n7 n8 c p_ t_ ol dl = some (r0, r1, r2, r3, r4, r5, r6, r7, r8, r9, ab, ac, ad)) ∧ Aside0 (St w0 w g c g4 p_ t_ wc) ∧ Aside0 (wc.heap[g5]? = some (.cells #[.int .i64 x0, .int .i64 n3, .bool x2, .bool false, .int .i64 0, .int .i64 x5, .int .i64 x6, .int .i64 n7, .int .i64 n8, .slice Ao ol.length co, .slice Ad dl.length cd] 25 (0, 0))) ∧ Aside0 (Kd.R (Kd.int .u8) 5 wc w.heap.size (fun k_ => some k_ ≠ ((.slice Ad dl.length cd) : Value).ownBlock) (.slice Ao ol.length co) ol) ∧ Aside0 (Kd.R (Kd.int .u8) 5 wc w.heap.size (fun k_ => some k_ ≠ ((.slice Ao ol.length co) : Value).ownBlock) (.slice Ad dl.length cd) dl))
   case first =>
    have H := HJ.out
    clear HJ
    by_cases b1 : m = 0
    · rw [if_pos b1] at H
      have b1b : ((m) == 0) = true := beq_iff_eq.mpr b1
      have b1c : ((m) != 0) = false := bne_eq_false_iff_eq.mpr b1
      clear b1
      replace H := Option.bind_eq_some_iff.mp H
      obtain ⟨⟨m2, pa, ta⟩, A, H⟩ := H
      dsimp only at A H
      have EB := Aside0.mk A
      clear A
      replace H := Option.bind_eq_some_iff.mp H
      obtain ⟨⟨ol, pb, tb⟩, A, H⟩ := H
      dsimp only at A H
      have EC := Aside0.mk A
      clear A
      have HJ := Aside0.mk H
      clear H
      go_wp2_with (first | ((with_reducible refine gate_callee (f := 30) rfl ?_); refine gL (some 40) Try.func30 #[.pointer (some ⟨g, 0, none⟩), .int .i64 11] ?_; (with_reducible refine (spec_l01Next.calls g c pm tm 11 m2 pa ta w0 _ ?side1 ?side2 EB.out).mono ?_); (case side1 => exact St.i S); (case side2 => exact St.b S); rintro e wb ⟨rfl, hi, hb, hk⟩; refine ⟨_, rfl, ?_⟩; replace K5 := Aside0.mk (KeepBut.blk hk K5.out GX.out.2.2.1 (by simp)); replace D := Aside0.mk (S.out.row D.out hk); replace S := Aside0.mk (S.out.call N4.out hi hb hk); clear hi hb hk; skip) | ((with_reducible refine gate_callee (f := 33) rfl ?_); refine gL (some 42) Try.func33 #[.pointer (some ⟨g, 0, none⟩), .int .i64 (wrap64 (4 * m2))] ?_; (with_reducible refine (spec_l01Bytes.calls k g c pa ta (wrap64 (4 * m2)) ol pb tb w0 _ ?side1 ?side2 EC.out).mono ?_); (case side1 => exact St.i S); (case side2 => exact St.b S); rintro e wd ⟨vo, rfl, ho, hi, hb, hk⟩; obtain ⟨Ao, co, rfl⟩ := Kd.R_slice ho; refine ⟨_, rfl, ?_⟩; have O := Aside0.mk (S.out.newer D.out ho); replace D := Aside0.mk (S.out.elder D.out hk ho); replace K5 := Aside0.mk (KeepBut.blk hk K5.out GX.out.2.2.1 (by simp)); replace S := Aside0.mk (S.out.call N4.out hi hb hk); clear ho hi hb hk; obtain ⟨⟨hczs_0, hczs_1, hczs_2, hczs_3, hczs_4, hczs_5, hczs_6, hczs_7, hczs_8, hczs_9, hczs_10⟩, hfzs_0, hfzs_1, hfzs_2, hfzs_3, hfzs_4, hfzs_5, hfzs_6, hfzs_7, hfzs_8, hfzs_9, hfzs_10⟩ := cells11 K5.out))
      go_meet
      case rel => exact ⟨pb, tb, Ao, co, ol, HJ, ⟨S.out.set GX.out⟩, ⟨blk_put K5.out 9 (.slice Ao ol.length co) rfl⟩, ⟨row_set O.out K5.out⟩, ⟨row_set D.out K5.out⟩⟩
    · rw [if_neg b1] at H
      have b1b : ((m) == 0) = false := beq_eq_false_iff_ne.mpr b1
      have b1c : ((m) != 0) = true := bne_iff_ne.mpr b1
      have HJ := Aside0.mk H
      clear H
      go_wp2
      go_meet
      case rel => exact ⟨pm, tm, none, 0, [], HJ, S, K5, ⟨Kd.R_nil _ _ _ _ _⟩, ⟨Kd.R_mono (Kd.R_apart_nil D.out) (fun _ h_ => h_.2)⟩⟩
   case rest =>
    clear HJ S K5 D EA
    obtain ⟨p_, t_, Ao, co, ol, HJ, S, K5, O, D⟩ := hcut
    have H := HJ.out
    clear HJ
    unfold spec_l05Packet.j1 at H
    replace H := Option.bind_eq_some_iff.mp H
    obtain ⟨⟨m, pm, tm⟩, A, H⟩ := H
    dsimp only at A H
    have EA := Aside0.mk A
    clear A
    have HJ := Aside0.mk H
    clear H
    go_upto_if 46 with (first | ((with_reducible refine gate_callee (f := 30) rfl ?_); refine gL (some 45) Try.func30 #[.pointer (some ⟨g, 0, none⟩), .int .i64 6] ?_; (with_reducible refine (spec_l01Next.calls g c p_ t_ 6 m pm tm w0 _ ?side1 ?side2 EA.out).mono ?_); (case side1 => exact St.i S); (case side2 => exact St.b S); rintro e wa ⟨rfl, hi, hb, hk⟩; refine ⟨_, rfl, ?_⟩; replace K5 := Aside0.mk (KeepBut.blk hk K5.out GX.out.2.2.1 (by simp)); replace O := Aside0.mk (S.out.row O.out hk); replace D := Aside0.mk (S.out.row D.out hk); replace S := Aside0.mk (S.out.call N4.out hi hb hk); clear hi hb hk; skip))
    (try simp only [Act.put, List.setIfInBounds_toArray, List.set_cons_zero, List.set_cons_succ])
    go_cut [] (fun wc => ∃ (y3 : Bool) (y4 p_ t_ : Int), Aside0 (some (x0, n3, x2, y3, y4, x5, x6, n7, n8, ol, dl, p_, t_) = some (r0, r1, r2, r3, r4, r5, r6, r7, r8, r9, ab, ac, ad)) ∧ Aside0 (St w0 w g c g4 p_ t_ wc) ∧ Aside0 (wc.heap[g5]? = some (.cells #[.int .i64 x0, .int .i64 n3, .bool x2, .bool y3, .int .i64 y4, .int .i64 x5, .int .i64 x6, .int .i64 n7, .int .i64 n8, .slice Ao ol.length co, .slice Ad dl.length cd] 25 (0, 0))) ∧ Aside0 (Kd.R (Kd.int .u8) 5 wc w.heap.size (fun k_ => some k_ ≠ ((.slice Ad dl.length cd) : Value).ownBlock) (.slice Ao ol.length co) ol) ∧ Aside0 (Kd.R (Kd.int .u8) 5 wc w.heap.size (fun k_ => some k_ ≠ ((.slice Ao ol.length co) : Value).ownBlock) (.slice Ad dl.length cd) dl))
    case first =>
     have H := HJ.out
     clear HJ
     by_cases b1 : m = 0
     · rw [if_pos b1] at H
       have b1b : ((m) == 0) = true := beq_iff_eq.mpr b1
       have b1c : ((m) != 0) = false := bne_eq_false_iff_eq.mpr b1
       clear b1
       replace H := Option.bind_eq_some_iff.mp H
       obtain ⟨⟨m2, pa, ta⟩, A, H⟩ := H
       dsimp only at A H
       have EB := Aside0.mk A
       clear A
       have HJ := Aside0.mk H
       clear H
       obtain ⟨⟨hczs_0, hczs_1, hczs_2, hczs_3, hczs_4, hczs_5, hczs_6, hczs_7, hczs_8, hczs_9, hczs_10⟩, hfzs_0, hfzs_1, hfzs_2, hfzs_3, hfzs_4, hfzs_5, hfzs_6, hfzs_7, hfzs_8, hfzs_9, hfzs_10⟩ := cells11 K5.out
       go_upto_region 6 with (fail)
       have S_ := Aside0.mk (S.out.set GX.out : St w0 w g c g4 pm tm (wa.setCell ⟨g5, 3, none⟩ (.bool true)))
       have O_ := Aside0.mk (row_set O.out K5.out : Kd.R (Kd.int .u8) 5 (wa.setCell ⟨g5, 3, none⟩ (.bool true)) w.heap.size (fun k_ => some k_ ≠ ((.slice Ad dl.length cd) : Value).ownBlock) (.slice Ao ol.length co) ol)
       have D_ := Aside0.mk (row_set D.out K5.out : Kd.R (Kd.int .u8) 5 (wa.setCell ⟨g5, 3, none⟩ (.bool true)) w.heap.size (fun k_ => some k_ ≠ ((.slice Ao ol.length co) : Value).ownBlock) (.slice Ad dl.length cd) dl)
       have K5_ : Aside0 ((wa.setCell ⟨g5, 3, none⟩ (.bool true)).heap[g5]? = some (.cells #[.int .i64 x0, .int .i64 n3, .bool x2, .bool true, .int .i64 0, .int .i64 x5, .int .i64 x6, .int .i64 n7, .int .i64 n8, .slice Ao ol.length co, .slice Ad dl.length cd] 25 (0, 0))) := ⟨blk_put K5.out 3 (.bool true) rfl⟩
       clear S O D K5
       have S := S_
       have O := O_
       have D := D_
       have K5 := K5_
       clear S_ O_ D_ K5_
       clear hczs_0 hfzs_0 hczs_1 hfzs_1 hczs_2 hfzs_2 hczs_3 hfzs_3 hczs_4 hfzs_4 hczs_5 hfzs_5 hczs_6 hfzs_6 hczs_7 hfzs_7 hczs_8 hfzs_8 hczs_9 hfzs_9 hczs_10 hfzs_10
       generalize wa.setCell ⟨g5, 3, none⟩ (.bool true) = wz at S O D K5 ⊢
       go_wp2_with (first | ((with_reducible refine gate_callee (f := 30) rfl ?_); refine gL (some 49) Try.func30 #[.pointer (some ⟨g, 0, none⟩), .int .i64 100] ?_; (with_reducible refine (spec_l01Next.calls g c pm tm 100 m2 pa ta w0 _ ?side1 ?side2 EB.out).mono ?_); (case side1 => exact St.i S); (case side2 => exact St.b S); rintro e wb ⟨rfl, hi, hb, hk⟩; refine ⟨_, rfl, ?_⟩; replace K5 := Aside0.mk (KeepBut.blk hk K5.out GX.out.2.2.1 (by simp)); replace O := Aside0.mk (S.out.row O.out hk); replace D := Aside0.mk (S.out.row D.out hk); replace S := Aside0.mk (S.out.call N4.out hi hb hk); clear hi hb hk; obtain ⟨⟨hczs_0, hczs_1, hczs_2, hczs_3, hczs_4, hczs_5, hczs_6, hczs_7, hczs_8, hczs_9, hczs_10⟩, hfzs_0, hfzs_1, hfzs_2, hfzs_3, hfzs_4, hfzs_5, hfzs_6, hfzs_7, hfzs_8, hfzs_9, hfzs_10⟩ := cells11 K5.out))
       go_meet
       case rel => exact ⟨true, wrap64 (8 * m2), pa, ta, HJ, ⟨S.out.set GX.out⟩, ⟨blk_put K5.out 4 (.int .i64 (wrap64 (8 * m2))) rfl⟩, ⟨row_set O.out K5.out⟩, ⟨row_set D.out K5.out⟩⟩
     · rw [if_neg b1] at H
       have b1b : ((m) == 0) = false := beq_eq_false_iff_ne.mpr b1
       have b1c : ((m) != 0) = true := bne_iff_ne.mpr b1
       have HJ := Aside0.mk H
       clear H
       go_wp2
       go_meet
       case rel => exact ⟨false, 0, pm, tm, HJ, S, K5, O, D⟩
    case rest =>
     clear HJ S K5 O D EA
     obtain ⟨y3, y4, p_, t_, HJ, S, K5, O, D⟩ := hcut
     have H := HJ.out
     clear HJ
     simp only [Option.some.injEq, Prod.mk.injEq] at H
     obtain ⟨rfl, rfl, rfl, rfl, rfl, rfl, rfl, rfl, rfl, rfl, rfl, rfl, rfl⟩ := H
     have HI := Aside0.mk S.out.1
     have HB := Aside0.mk S.out.2.1
     have HK := Aside0.mk S.out.2.2.1
     have K4 := Aside0.mk S.out.2.2.2
     clear S
     obtain ⟨⟨hczs_0, hczs_1, hczs_2, hczs_3, hczs_4, hczs_5, hczs_6, hczs_7, hczs_8, hczs_9, hczs_10⟩, hfzs_0, hfzs_1, hfzs_2, hfzs_3, hfzs_4, hfzs_5, hfzs_6, hfzs_7, hfzs_8, hfzs_9, hfzs_10⟩ := cells11 K5.out
     obtain ⟨⟨hcza_0, hcza_1, hcza_2, hcza_3, hcza_4, hcza_5, hcza_6, hcza_7, hcza_8, hcza_9, hcza_10⟩, hfza_0, hfza_1, hfza_2, hfza_3, hfza_4, hfza_5, hfza_6, hfza_7, hfza_8, hfza_9, hfza_10⟩ := cells11 K4.out
     go_wp2_with (first | ((with_reducible refine gate_store (t := 25) (p := 4) rfl ?_); refine storeE (put11 wc g4 (.int .i64 x0) (.int .i64 n3) (.bool x2) (.bool y3) (.int .i64 y4) (.int .i64 x5) (.int .i64 x6) (.int .i64 n7) (.int .i64 n8) (.slice Ao ol.length co) (.slice Ad dl.length cd)) ?_; intro vS hw; replace O : Aside0 (Kd.R (Kd.int .u8) 5 vS w.heap.size (fun k_ => some k_ ≠ ((.slice Ad dl.length cd) : Value).ownBlock) (.slice Ao ol.length co) ol) := ⟨by rw [hw]; exact row_put O.out K4.out⟩; replace D : Aside0 (Kd.R (Kd.int .u8) 5 vS w.heap.size (fun k_ => some k_ ≠ ((.slice Ao ol.length co) : Value).ownBlock) (.slice Ad dl.length cd) dl) := ⟨by rw [hw]; exact row_put D.out K4.out⟩; replace HI : Aside0 (IsS61 w0 vS g c p_ t_) := ⟨by rw [hw]; exact is_put HI.out N4.out.symm⟩; replace HK : Aside0 (KeepBut w vS g none) := ⟨by rw [hw]; exact keep_put HK.out G4.out⟩; replace HB : Aside0 (Below w0.heap.size w0 vS) := ⟨by rw [hw]; exact below_put HB.out X4.out⟩; replace K4 : Aside0 (vS.heap[g4]? = some (.cells #[.int .i64 x0, .int .i64 n3, .bool x2, .bool y3, .int .i64 y4, .int .i64 x5, .int .i64 x6, .int .i64 n7, .int .i64 n8, .slice Ao ol.length co, .slice Ad dl.length cd] 25 (0, 0))) := ⟨by rw [hw]; exact set11 K4.out⟩; clear hw))
     refine bodyPost_ret (results_cell_row rfl _ _ g4 25 #[.int .i64 x0, .int .i64 n3, .bool x2, .bool y3, .int .i64 y4, .int .i64 x5, .int .i64 x6, .int .i64 n7, .int .i64 n8, .slice Ao ol.length co, .slice Ad dl.length cd] (0, 0) _ rfl K4.out Try.underlying25 rfl (by kernel_rfl)) rfl ?_
     exact ⟨.slice Ao ol.length co, .slice Ad dl.length cd, eZ, O.out, D.out, HI.out, HB.out, HK.out⟩
 · clear S
   rintro ⟨g5, a9, c9, Ad, cd⟩ u ⟨S, X, L, D⟩
   refine pa_ ?_
   refine on_ HT_ 17 (some 23) (spec_l05Packet.m 805306367) (fun K hK => ?_)
   obtain ⟨aq, eq_, hx⟩ := Kd.at_int (Kd.R_reads' L).2.2 n6 b1 b2
   obtain rfl : a9 = aq := (by injection eq_)
   refine value_ (w1 := ?_) (v := ?_) (by rfl) rfl ?_ ?_
   rotate_left 2
   {
    go_simp
    constructor
    rfl
    rfl
   }
   refine hK.out _ _ trivial fun _ => ?_
   refine nr_ ?_
   refine pu_ HT_ 28 34 (spec_l05Packet.m 1073741823) ?_
   exact nrm_ (j53 (g5, a9, c9, Ad, cd) _ ⟨S, X, D⟩)
 · clear S
   rintro ⟨g5, a9, c9⟩ u ⟨S, X⟩
   refine pa_ ?_
   refine on_ HT_ 27 (some 33) (spec_l05Packet.m 805306367) (fun K hK => ?_)
   refine by_ S N4 E10 (fun v Ad cd D s k => hK.out _ _ trivial fun _ => ?_)
   refine nr_ ?_
   refine pu_ HT_ 28 34 (spec_l05Packet.m 1073741823) ?_
   exact nrm_ (j53 (g5, a9, c9, Ad, cd) _ ⟨s, (X.call k), (Kd.R_lower D (keep_size S.2.2.1))⟩)
 · clear S
   rintro ⟨a9, c9, Ad, cd⟩ u ⟨S, D⟩
   refine pa_ ?_
   refine on_ HT_ 29 (some 5) (spec_l05Packet.m 1073741823) (fun K hK => ?_)
   refine spec_l05Packet.bx S HW0.out (fun g5 v X b => hK.out _ _ trivial fun _ => ?_)
   exact nrm_ (j53 (g5, a9, c9, Ad, cd) _ ⟨(S.made b), X, (Kd.R_below D b)⟩)
 · clear S
   rintro ⟨g5, Ad, cd⟩ u ⟨S, X, D⟩
   refine pa_ ?_
   refine on_ HT_ 13 (some 19) (spec_l05Packet.m 805109759) (fun K hK => ?_)
   refine spec_l05Packet.li S (fun a9 c9 v L b => hK.out _ _ trivial fun _ => ?_)
   refine nr_ ?_
   refine pu_ HT_ 16 22 (spec_l05Packet.m 805175295) ?_
   exact nrm_ (j52 (g5, a9, c9, Ad, cd) _ ⟨(S.made b), (X.made b), L, (Kd.R_below D b)⟩)
 · clear S
   rintro ⟨g5, a9, c9⟩ u ⟨S, X, L⟩
   refine pa_ ?_
   refine two_ (i := 17) (j := 27) (Ni := some 23) (Nj := some 33) (spec_l05Packet.m 671088639) (spec_l05Packet.m 805175295) rfl rfl rfl rfl (two_of HT_.out (by kernel_rfl)) (by decide) (by decide) (fun K hK => ?_) (fun K hK => ?_)
   · skip
     obtain ⟨aq, eq_, hx⟩ := Kd.at_int (Kd.R_reads' L).2.2 n6 b1 b2
     obtain rfl : a9 = aq := (by injection eq_)
     refine value_ (w1 := ?_) (v := ?_) (by rfl) rfl ?_ ?_
     rotate_left 2
     {
      go_simp
      constructor
      rfl
      rfl
     }
     refine hK.out _ _ trivial fun _ => ?_
     exact nrm_ (j51 (g5, a9, c9) _ ⟨S, X⟩)
   · skip
     refine by_ S N4 E10 (fun v Ad cd D s k => hK.out _ _ trivial fun _ => ?_)
     exact nrm_ (j52 (g5, a9, c9, Ad, cd) _ ⟨s, (X.call k), (S.row L k), (Kd.R_lower D (keep_size S.2.2.1))⟩)
 · clear S
   rintro ⟨a9, c9, Ad, cd⟩ u ⟨S, L, D⟩
   refine pa_ ?_
   refine two_ (i := 17) (j := 29) (Ni := some 23) (Nj := some 5) (spec_l05Packet.m 268435455) (spec_l05Packet.m 805175295) rfl rfl rfl rfl (two_of HT_.out (by kernel_rfl)) (by decide) (by decide) (fun K hK => ?_) (fun K hK => ?_)
   · skip
     obtain ⟨aq, eq_, hx⟩ := Kd.at_int (Kd.R_reads' L).2.2 n6 b1 b2
     obtain rfl : a9 = aq := (by injection eq_)
     refine value_ (w1 := ?_) (v := ?_) (by rfl) rfl ?_ ?_
     rotate_left 2
     {
      go_simp
      constructor
      rfl
      rfl
     }
     refine hK.out _ _ trivial fun _ => ?_
     refine nr_ ?_
     refine pu_ HT_ 28 34 (spec_l05Packet.m 536870911) ?_
     exact nrm_ (j50 (a9, c9, Ad, cd) _ ⟨S, D⟩)
   · skip
     refine spec_l05Packet.bx S HW0.out (fun g5 v X b => hK.out _ _ trivial fun _ => ?_)
     exact nrm_ (j52 (g5, a9, c9, Ad, cd) _ ⟨(S.made b), X, (Kd.R_below L b), (Kd.R_below D b)⟩)
 · clear S
   rintro ⟨g5, a9, c9⟩ u ⟨S, X⟩
   refine pa_ ?_
   refine on_ HT_ 26 (some 32) (spec_l05Packet.m 671088639) (fun K hK => ?_)
   refine nx_ S N4 E9 (fun v s k => hK.out _ _ trivial fun _ => ?_)
   exact nrm_ (j51 (g5, a9, c9) _ ⟨s, (X.call k)⟩)
 · clear S
   rintro ⟨a9, c9⟩ u S
   refine pa_ ?_
   refine two_ (i := 27) (j := 29) (Ni := some 33) (Nj := some 5) (spec_l05Packet.m 268435455) (spec_l05Packet.m 671088639) rfl rfl rfl rfl (two_of HT_.out (by kernel_rfl)) (by decide) (by decide) (fun K hK => ?_) (fun K hK => ?_)
   · skip
     refine by_ S N4 E10 (fun v Ad cd D s k => hK.out _ _ trivial fun _ => ?_)
     refine nr_ ?_
     refine pu_ HT_ 28 34 (spec_l05Packet.m 536870911) ?_
     exact nrm_ (j50 (a9, c9, Ad, cd) _ ⟨s, (Kd.R_lower D (keep_size S.2.2.1))⟩)
   · skip
     refine spec_l05Packet.bx S HW0.out (fun g5 v X b => hK.out _ _ trivial fun _ => ?_)
     exact nrm_ (j51 (g5, a9, c9) _ ⟨(S.made b), X⟩)
 · clear S
   rintro g5 u ⟨S, X⟩
   refine pa_ ?_
   refine two_ (i := 13) (j := 27) (Ni := some 19) (Nj := some 33) (spec_l05Packet.m 670892031) (spec_l05Packet.m 805101567) rfl rfl rfl rfl (two_of HT_.out (by kernel_rfl)) (by decide) (by decide) (fun K hK => ?_) (fun K hK => ?_)
   · skip
     refine spec_l05Packet.li S (fun a9 c9 v L b => hK.out _ _ trivial fun _ => ?_)
     refine nr_ ?_
     refine pu_ HT_ 16 22 (spec_l05Packet.m 670957567) ?_
     exact nrm_ (j48 (g5, a9, c9) _ ⟨(S.made b), (X.made b), L⟩)
   · skip
     refine by_ S N4 E10 (fun v Ad cd D s k => hK.out _ _ trivial fun _ => ?_)
     exact nrm_ (j49 (g5, Ad, cd) _ ⟨s, (X.call k), (Kd.R_lower D (keep_size S.2.2.1))⟩)
 · clear S
   rintro ⟨Ad, cd⟩ u ⟨S, D⟩
   refine pa_ ?_
   refine two_ (i := 13) (j := 29) (Ni := some 19) (Nj := some 5) (spec_l05Packet.m 268238847) (spec_l05Packet.m 805101567) rfl rfl rfl rfl (two_of HT_.out (by kernel_rfl)) (by decide) (by decide) (fun K hK => ?_) (fun K hK => ?_)
   · skip
     refine spec_l05Packet.li S (fun a9 c9 v L b => hK.out _ _ trivial fun _ => ?_)
     refine nr_ ?_
     refine pu_ HT_ 16 22 (spec_l05Packet.m 268304383) ?_
     exact nrm_ (j47 (a9, c9, Ad, cd) _ ⟨(S.made b), L, (Kd.R_below D b)⟩)
   · skip
     refine spec_l05Packet.bx S HW0.out (fun g5 v X b => hK.out _ _ trivial fun _ => ?_)
     exact nrm_ (j49 (g5, Ad, cd) _ ⟨(S.made b), X, (Kd.R_below D b)⟩)
 · clear S
   rintro ⟨g5, a9, c9⟩ u ⟨S, X, L⟩
   refine pa_ ?_
   refine two_ (i := 17) (j := 26) (Ni := some 23) (Nj := some 32) (spec_l05Packet.m 603979775) (spec_l05Packet.m 670957567) rfl rfl rfl rfl (two_of HT_.out (by kernel_rfl)) (by decide) (by decide) (fun K hK => ?_) (fun K hK => ?_)
   · skip
     obtain ⟨aq, eq_, hx⟩ := Kd.at_int (Kd.R_reads' L).2.2 n6 b1 b2
     obtain rfl : a9 = aq := (by injection eq_)
     refine value_ (w1 := ?_) (v := ?_) (by rfl) rfl ?_ ?_
     rotate_left 2
     {
      go_simp
      constructor
      rfl
      rfl
     }
     refine hK.out _ _ trivial fun _ => ?_
     exact nrm_ (j46 (g5, a9, c9) _ ⟨S, X⟩)
   · skip
     refine nx_ S N4 E9 (fun v s k => hK.out _ _ trivial fun _ => ?_)
     exact nrm_ (j48 (g5, a9, c9) _ ⟨s, (X.call k), (S.row L k)⟩)
 · clear S
   rintro ⟨a9, c9⟩ u ⟨S, L⟩
   refine pa_ ?_
   refine three_ (i := 17) (j := 27) (k := 29) (Ni := some 23) (Nj := some 33) (Nk := some 5) (spec_l05Packet.m 134217727) (spec_l05Packet.m 268304383) (spec_l05Packet.m 670957567) rfl rfl rfl rfl rfl rfl (three_of HT_.out (by kernel_rfl)) (by decide) (by decide) (by decide) (fun K hK => ?_) (fun K hK => ?_) (fun K hK => ?_)
   · skip
     obtain ⟨aq, eq_, hx⟩ := Kd.at_int (Kd.R_reads' L).2.2 n6 b1 b2
     obtain rfl : a9 = aq := (by injection eq_)
     refine value_ (w1 := ?_) (v := ?_) (by rfl) rfl ?_ ?_
     rotate_left 2
     {
      go_simp
      constructor
      rfl
      rfl
     }
     refine hK.out _ _ trivial fun _ => ?_
     exact nrm_ (j45 (a9, c9) _ S)
   · skip
     refine by_ S N4 E10 (fun v Ad cd D s k => hK.out _ _ trivial fun _ => ?_)
     exact nrm_ (j47 (a9, c9, Ad, cd) _ ⟨s, (S.row L k), (Kd.R_lower D (keep_size S.2.2.1))⟩)
   · skip
     refine spec_l05Packet.bx S HW0.out (fun g5 v X b => hK.out _ _ trivial fun _ => ?_)
     exact nrm_ (j48 (g5, a9, c9) _ ⟨(S.made b), X, (Kd.R_below L b)⟩)
 · clear S
   rintro ⟨g5, a9, c9⟩ u ⟨S, X⟩
   refine pa_ ?_
   refine on_ HT_ 21 (some 27) (spec_l05Packet.m 603979775) (fun K hK => ?_)
   refine ho_ S N4 E8 (fun v s k => hK.out _ _ trivial fun _ => ?_)
   exact nrm_ (j46 (g5, a9, c9) _ ⟨s, (X.call k)⟩)
 · clear S
   rintro ⟨a9, c9⟩ u S
   refine pa_ ?_
   refine two_ (i := 26) (j := 29) (Ni := some 32) (Nj := some 5) (spec_l05Packet.m 134217727) (spec_l05Packet.m 603979775) rfl rfl rfl rfl (two_of HT_.out (by kernel_rfl)) (by decide) (by decide) (fun K hK => ?_) (fun K hK => ?_)
   · skip
     refine nx_ S N4 E9 (fun v s k => hK.out _ _ trivial fun _ => ?_)
     exact nrm_ (j45 (a9, c9) _ s)
   · skip
     refine spec_l05Packet.bx S HW0.out (fun g5 v X b => hK.out _ _ trivial fun _ => ?_)
     exact nrm_ (j46 (g5, a9, c9) _ ⟨(S.made b), X⟩)
 · clear S
   rintro g5 u ⟨S, X⟩
   refine pa_ ?_
   refine two_ (i := 13) (j := 26) (Ni := some 19) (Nj := some 32) (spec_l05Packet.m 603783167) (spec_l05Packet.m 670883839) rfl rfl rfl rfl (two_of HT_.out (by kernel_rfl)) (by decide) (by decide) (fun K hK => ?_) (fun K hK => ?_)
   · skip
     refine spec_l05Packet.li S (fun a9 c9 v L b => hK.out _ _ trivial fun _ => ?_)
     refine nr_ ?_
     refine pu_ HT_ 16 22 (spec_l05Packet.m 603848703) ?_
     exact nrm_ (j42 (g5, a9, c9) _ ⟨(S.made b), (X.made b), L⟩)
   · skip
     refine nx_ S N4 E9 (fun v s k => hK.out _ _ trivial fun _ => ?_)
     exact nrm_ (j44 g5 _ ⟨s, (X.call k)⟩)
 · clear S
   rintro _ u S
   refine pa_ ?_
   refine three_ (i := 13) (j := 27) (k := 29) (Ni := some 19) (Nj := some 33) (Nk := some 5) (spec_l05Packet.m 134021119) (spec_l05Packet.m 268230655) (spec_l05Packet.m 670883839) rfl rfl rfl rfl rfl rfl (three_of HT_.out (by kernel_rfl)) (by decide) (by decide) (by decide) (fun K hK => ?_) (fun K hK => ?_) (fun K hK => ?_)
   · skip
     refine spec_l05Packet.li S (fun a9 c9 v L b => hK.out _ _ trivial fun _ => ?_)
     refine nr_ ?_
     refine pu_ HT_ 16 22 (spec_l05Packet.m 134086655) ?_
     exact nrm_ (j41 (a9, c9) _ ⟨(S.made b), L⟩)
   · skip
     refine by_ S N4 E10 (fun v Ad cd D s k => hK.out _ _ trivial fun _ => ?_)
     exact nrm_ (j43 (Ad, cd) _ ⟨s, (Kd.R_lower D (keep_size S.2.2.1))⟩)
   · skip
     refine spec_l05Packet.bx S HW0.out (fun g5 v X b => hK.out _ _ trivial fun _ => ?_)
     exact nrm_ (j44 g5 _ ⟨(S.made b), X⟩)
 · clear S
   rintro ⟨g5, a9, c9⟩ u ⟨S, X, L⟩
   refine pa_ ?_
   refine two_ (i := 17) (j := 21) (Ni := some 23) (Nj := some 27) (spec_l05Packet.m 601882623) (spec_l05Packet.m 603848703) rfl rfl rfl rfl (two_of HT_.out (by kernel_rfl)) (by decide) (by decide) (fun K hK => ?_) (fun K hK => ?_)
   · skip
     obtain ⟨aq, eq_, hx⟩ := Kd.at_int (Kd.R_reads' L).2.2 n6 b1 b2
     obtain rfl : a9 = aq := (by injection eq_)
     refine value_ (w1 := ?_) (v := ?_) (by rfl) rfl ?_ ?_
     rotate_left 2
     {
      go_simp
      constructor
      rfl
      rfl
     }
     refine hK.out _ _ trivial fun _ => ?_
     exact nrm_ (j40 (g5, a9, c9) _ ⟨S, X⟩)
   · skip
     refine ho_ S N4 E8 (fun v s k => hK.out _ _ trivial fun _ => ?_)
     exact nrm_ (j42 (g5, a9, c9) _ ⟨s, (X.call k), (S.row L k)⟩)
 · clear S
   rintro ⟨a9, c9⟩ u ⟨S, L⟩
   refine pa_ ?_
   refine three_ (i := 17) (j := 26) (k := 29) (Ni := some 23) (Nj := some 32) (Nk := some 5) (spec_l05Packet.m 67108863) (spec_l05Packet.m 134086655) (spec_l05Packet.m 603848703) rfl rfl rfl rfl rfl rfl (three_of HT_.out (by kernel_rfl)) (by decide) (by decide) (by decide) (fun K hK => ?_) (fun K hK => ?_) (fun K hK => ?_)
   · skip
     obtain ⟨aq, eq_, hx⟩ := Kd.at_int (Kd.R_reads' L).2.2 n6 b1 b2
     obtain rfl : a9 = aq := (by injection eq_)
     refine value_ (w1 := ?_) (v := ?_) (by rfl) rfl ?_ ?_
     rotate_left 2
     {
      go_simp
      constructor
      rfl
      rfl
     }
     refine hK.out _ _ trivial fun _ => ?_
     exact nrm_ (j39 (a9, c9) _ S)
   · skip
     refine nx_ S N4 E9 (fun v s k => hK.out _ _ trivial fun _ => ?_)
     exact nrm_ (j41 (a9, c9) _ ⟨s, (S.row L k)⟩)
   · skip
     refine spec_l05Packet.bx S HW0.out (fun g5 v X b => hK.out _ _ trivial fun _ => ?_)
     exact nrm_ (j42 (g5, a9, c9) _ ⟨(S.made b), X, (Kd.R_below L b)⟩)
 · clear S
   rintro ⟨g5, a9, c9⟩ u ⟨S, X⟩
   refine pa_ ?_
   refine on_ HT_ 19 (some 25) (spec_l05Packet.m 601882623) (fun K hK => ?_)
   refine ho_ S N4 E7 (fun v s k => hK.out _ _ trivial fun _ => ?_)
   exact nrm_ (j40 (g5, a9, c9) _ ⟨s, (X.call k)⟩)
 · clear S
   rintro ⟨a9, c9⟩ u S
   refine pa_ ?_
   refine two_ (i := 21) (j := 29) (Ni := some 27) (Nj := some 5) (spec_l05Packet.m 67108863) (spec_l05Packet.m 601882623) rfl rfl rfl rfl (two_of HT_.out (by kernel_rfl)) (by decide) (by decide) (fun K hK => ?_) (fun K hK => ?_)
   · skip
     refine ho_ S N4 E8 (fun v s k => hK.out _ _ trivial fun _ => ?_)
     exact nrm_ (j39 (a9, c9) _ s)
   · skip
     refine spec_l05Packet.bx S HW0.out (fun g5 v X b => hK.out _ _ trivial fun _ => ?_)
     exact nrm_ (j40 (g5, a9, c9) _ ⟨(S.made b), X⟩)
 · clear S
   rintro g5 u ⟨S, X⟩
   refine pa_ ?_
   refine two_ (i := 13) (j := 21) (Ni := some 19) (Nj := some 27) (spec_l05Packet.m 601686015) (spec_l05Packet.m 603774975) rfl rfl rfl rfl (two_of HT_.out (by kernel_rfl)) (by decide) (by decide) (fun K hK => ?_) (fun K hK => ?_)
   · skip
     refine spec_l05Packet.li S (fun a9 c9 v L b => hK.out _ _ trivial fun _ => ?_)
     refine nr_ ?_
     refine pu_ HT_ 16 22 (spec_l05Packet.m 601751551) ?_
     exact nrm_ (j36 (g5, a9, c9) _ ⟨(S.made b), (X.made b), L⟩)
   · skip
     refine ho_ S N4 E8 (fun v s k => hK.out _ _ trivial fun _ => ?_)
     exact nrm_ (j38 g5 _ ⟨s, (X.call k)⟩)
 · clear S
   rintro _ u S
   refine pa_ ?_
   refine three_ (i := 13) (j := 26) (k := 29) (Ni := some 19) (Nj := some 32) (Nk := some 5) (spec_l05Packet.m 66912255) (spec_l05Packet.m 134012927) (spec_l05Packet.m 603774975) rfl rfl rfl rfl rfl rfl (three_of HT_.out (by kernel_rfl)) (by decide) (by decide) (by decide) (fun K hK => ?_) (fun K hK => ?_) (fun K hK => ?_)
   · skip
     refine spec_l05Packet.li S (fun a9 c9 v L b => hK.out _ _ trivial fun _ => ?_)
     refine nr_ ?_
     refine pu_ HT_ 16 22 (spec_l05Packet.m 66977791) ?_
     exact nrm_ (j35 (a9, c9) _ ⟨(S.made b), L⟩)
   · skip
     refine nx_ S N4 E9 (fun v s k => hK.out _ _ trivial fun _ => ?_)
     exact nrm_ (j37 () _ s)
   · skip
     refine spec_l05Packet.bx S HW0.out (fun g5 v X b => hK.out _ _ trivial fun _ => ?_)
     exact nrm_ (j38 g5 _ ⟨(S.made b), X⟩)
 · clear S
   rintro ⟨g5, a9, c9⟩ u ⟨S, X, L⟩
   refine pa_ ?_
   refine two_ (i := 17) (j := 19) (Ni := some 23) (Nj := some 25) (spec_l05Packet.m 601358335) (spec_l05Packet.m 601751551) rfl rfl rfl rfl (two_of HT_.out (by kernel_rfl)) (by decide) (by decide) (fun K hK => ?_) (fun K hK => ?_)
   · skip
     obtain ⟨aq, eq_, hx⟩ := Kd.at_int (Kd.R_reads' L).2.2 n6 b1 b2
     obtain rfl : a9 = aq := (by injection eq_)
     refine value_ (w1 := ?_) (v := ?_) (by rfl) rfl ?_ ?_
     rotate_left 2
     {
      go_simp
      constructor
      rfl
      rfl
     }
     refine hK.out _ _ trivial fun _ => ?_
     exact nrm_ (j34 (g5, a9, c9) _ ⟨S, X⟩)
   · skip
     refine ho_ S N4 E7 (fun v s k => hK.out _ _ trivial fun _ => ?_)
     exact nrm_ (j36 (g5, a9, c9) _ ⟨s, (X.call k), (S.row L k)⟩)
 · clear S
   rintro ⟨a9, c9⟩ u ⟨S, L⟩
   refine pa_ ?_
   refine three_ (i := 17) (j := 21) (k := 29) (Ni := some 23) (Nj := some 27) (Nk := some 5) (spec_l05Packet.m 65011711) (spec_l05Packet.m 66977791) (spec_l05Packet.m 601751551) rfl rfl rfl rfl rfl rfl (three_of HT_.out (by kernel_rfl)) (by decide) (by decide) (by decide) (fun K hK => ?_) (fun K hK => ?_) (fun K hK => ?_)
   · skip
     obtain ⟨aq, eq_, hx⟩ := Kd.at_int (Kd.R_reads' L).2.2 n6 b1 b2
     obtain rfl : a9 = aq := (by injection eq_)
     refine value_ (w1 := ?_) (v := ?_) (by rfl) rfl ?_ ?_
     rotate_left 2
     {
      go_simp
      constructor
      rfl
      rfl
     }
     refine hK.out _ _ trivial fun _ => ?_
     exact nrm_ (j33 (a9, c9) _ S)
   · skip
     refine ho_ S N4 E8 (fun v s k => hK.out _ _ trivial fun _ => ?_)
     exact nrm_ (j35 (a9, c9) _ ⟨s, (S.row L k)⟩)
   · skip
     refine spec_l05Packet.bx S HW0.out (fun g5 v X b => hK.out _ _ trivial fun _ => ?_)
     exact nrm_ (j36 (g5, a9, c9) _ ⟨(S.made b), X, (Kd.R_below L b)⟩)
 · clear S
   rintro ⟨a9, c9⟩ u S
   refine pa_ ?_
   refine two_ (i := 19) (j := 29) (Ni := some 25) (Nj := some 5) (spec_l05Packet.m 65011711) (spec_l05Packet.m 601358335) rfl rfl rfl rfl (two_of HT_.out (by kernel_rfl)) (by decide) (by decide) (fun K hK => ?_) (fun K hK => ?_)
   · skip
     refine ho_ S N4 E7 (fun v s k => hK.out _ _ trivial fun _ => ?_)
     exact nrm_ (j33 (a9, c9) _ s)
   · skip
     refine spec_l05Packet.bx S HW0.out (fun g5 v X b => hK.out _ _ trivial fun _ => ?_)
     exact nrm_ (j34 (g5, a9, c9) _ ⟨(S.made b), X⟩)
 · clear S
   rintro g5 u ⟨S, X⟩
   refine pa_ ?_
   refine two_ (i := 13) (j := 19) (Ni := some 19) (Nj := some 25) (spec_l05Packet.m 601161727) (spec_l05Packet.m 601677823) rfl rfl rfl rfl (two_of HT_.out (by kernel_rfl)) (by decide) (by decide) (fun K hK => ?_) (fun K hK => ?_)
   · skip
     refine spec_l05Packet.li S (fun a9 c9 v L b => hK.out _ _ trivial fun _ => ?_)
     refine nr_ ?_
     refine pu_ HT_ 16 22 (spec_l05Packet.m 601227263) ?_
     exact nrm_ (j30 (g5, a9, c9) _ ⟨(S.made b), (X.made b), L⟩)
   · skip
     refine ho_ S N4 E7 (fun v s k => hK.out _ _ trivial fun _ => ?_)
     exact nrm_ (j32 g5 _ ⟨s, (X.call k)⟩)
 · clear S
   rintro _ u S
   refine pa_ ?_
   refine three_ (i := 13) (j := 21) (k := 29) (Ni := some 19) (Nj := some 27) (Nk := some 5) (spec_l05Packet.m 64815103) (spec_l05Packet.m 66904063) (spec_l05Packet.m 601677823) rfl rfl rfl rfl rfl rfl (three_of HT_.out (by kernel_rfl)) (by decide) (by decide) (by decide) (fun K hK => ?_) (fun K hK => ?_) (fun K hK => ?_)
   · skip
     refine spec_l05Packet.li S (fun a9 c9 v L b => hK.out _ _ trivial fun _ => ?_)
     refine nr_ ?_
     refine pu_ HT_ 16 22 (spec_l05Packet.m 64880639) ?_
     exact nrm_ (j29 (a9, c9) _ ⟨(S.made b), L⟩)
   · skip
     refine ho_ S N4 E8 (fun v s k => hK.out _ _ trivial fun _ => ?_)
     exact nrm_ (j31 () _ s)
   · skip
     refine spec_l05Packet.bx S HW0.out (fun g5 v X b => hK.out _ _ trivial fun _ => ?_)
     exact nrm_ (j32 g5 _ ⟨(S.made b), X⟩)
 · clear S
   rintro ⟨g5, a9, c9⟩ u ⟨S, X, L⟩
   refine pa_ ?_
   refine on_ HT_ 15 (some 21) (spec_l05Packet.m 601161727) (fun K hK => ?_)
   refine nx_ S N4 E6 (fun v s k => hK.out _ _ trivial fun _ => ?_)
   refine nr_ ?_
   refine pu_ HT_ 16 22 (spec_l05Packet.m 601227263) ?_
   exact nrm_ (j30 (g5, a9, c9) _ ⟨s, (X.call k), (S.row L k)⟩)
 · clear S
   rintro ⟨a9, c9⟩ u ⟨S, L⟩
   refine pa_ ?_
   refine three_ (i := 17) (j := 19) (k := 29) (Ni := some 23) (Nj := some 25) (Nk := some 5) (spec_l05Packet.m 64487423) (spec_l05Packet.m 64880639) (spec_l05Packet.m 601227263) rfl rfl rfl rfl rfl rfl (three_of HT_.out (by kernel_rfl)) (by decide) (by decide) (by decide) (fun K hK => ?_) (fun K hK => ?_) (fun K hK => ?_)
   · skip
     obtain ⟨aq, eq_, hx⟩ := Kd.at_int (Kd.R_reads' L).2.2 n6 b1 b2
     obtain rfl : a9 = aq := (by injection eq_)
     refine value_ (w1 := ?_) (v := ?_) (by rfl) rfl ?_ ?_
     rotate_left 2
     {
      go_simp
      constructor
      rfl
      rfl
     }
     refine hK.out _ _ trivial fun _ => ?_
     exact nrm_ (j28 (a9, c9) _ S)
   · skip
     refine ho_ S N4 E7 (fun v s k => hK.out _ _ trivial fun _ => ?_)
     exact nrm_ (j29 (a9, c9) _ ⟨s, (S.row L k)⟩)
   · skip
     refine spec_l05Packet.bx S HW0.out (fun g5 v X b => hK.out _ _ trivial fun _ => ?_)
     exact nrm_ (j30 (g5, a9, c9) _ ⟨(S.made b), X, (Kd.R_below L b)⟩)
 · clear S
   rintro ⟨g5, a9, c9⟩ u ⟨S, X, L⟩
   refine pa_ ?_
   refine on_ HT_ 11 (some 17) (spec_l05Packet.m 601124863) (fun K hK => ?_)
   refine nx_ S N4 E5 (fun v s k => hK.out _ _ trivial fun _ => ?_)
   refine nr_ ?_
   refine pu_ HT_ 12 18 (spec_l05Packet.m 601128959) ?_
   exact nrm_ (j25 (g5, a9, c9) _ ⟨s, (X.call k), (S.row L k)⟩)
 · clear S
   rintro g5 u ⟨S, X⟩
   refine pa_ ?_
   refine two_ (i := 13) (j := 15) (Ni := some 19) (Nj := some 21) (spec_l05Packet.m 601128959) (spec_l05Packet.m 601153535) rfl rfl rfl rfl (two_of HT_.out (by kernel_rfl)) (by decide) (by decide) (fun K hK => ?_) (fun K hK => ?_)
   · skip
     refine spec_l05Packet.li S (fun a9 c9 v L b => hK.out _ _ trivial fun _ => ?_)
     exact nrm_ (j25 (g5, a9, c9) _ ⟨(S.made b), (X.made b), L⟩)
   · skip
     refine nx_ S N4 E6 (fun v s k => hK.out _ _ trivial fun _ => ?_)
     exact nrm_ (j27 g5 _ ⟨s, (X.call k)⟩)
 · clear S
   rintro _ u S
   refine pa_ ?_
   refine three_ (i := 13) (j := 19) (k := 29) (Ni := some 19) (Nj := some 25) (Nk := some 5) (spec_l05Packet.m 64290815) (spec_l05Packet.m 64806911) (spec_l05Packet.m 601153535) rfl rfl rfl rfl rfl rfl (three_of HT_.out (by kernel_rfl)) (by decide) (by decide) (by decide) (fun K hK => ?_) (fun K hK => ?_) (fun K hK => ?_)
   · skip
     refine spec_l05Packet.li S (fun a9 c9 v L b => hK.out _ _ trivial fun _ => ?_)
     refine nr_ ?_
     refine pu_ HT_ 16 22 (spec_l05Packet.m 64356351) ?_
     exact nrm_ (j24 (a9, c9) _ ⟨(S.made b), L⟩)
   · skip
     refine ho_ S N4 E7 (fun v s k => hK.out _ _ trivial fun _ => ?_)
     exact nrm_ (j26 () _ s)
   · skip
     refine spec_l05Packet.bx S HW0.out (fun g5 v X b => hK.out _ _ trivial fun _ => ?_)
     exact nrm_ (j27 g5 _ ⟨(S.made b), X⟩)
 · clear S
   rintro ⟨a9, c9⟩ u ⟨S, L⟩
   refine pa_ ?_
   refine two_ (i := 15) (j := 29) (Ni := some 21) (Nj := some 5) (spec_l05Packet.m 64290815) (spec_l05Packet.m 601128959) rfl rfl rfl rfl (two_of HT_.out (by kernel_rfl)) (by decide) (by decide) (fun K hK => ?_) (fun K hK => ?_)
   · skip
     refine nx_ S N4 E6 (fun v s k => hK.out _ _ trivial fun _ => ?_)
     refine nr_ ?_
     refine pu_ HT_ 16 22 (spec_l05Packet.m 64356351) ?_
     exact nrm_ (j24 (a9, c9) _ ⟨s, (S.row L k)⟩)
   · skip
     refine spec_l05Packet.bx S HW0.out (fun g5 v X b => hK.out _ _ trivial fun _ => ?_)
     exact nrm_ (j25 (g5, a9, c9) _ ⟨(S.made b), X, (Kd.R_below L b)⟩)
 · clear S
   rintro ⟨g5, a9, c9⟩ u ⟨S, X, L⟩
   refine pa_ ?_
   refine on_ HT_ 8 (some 14) (spec_l05Packet.m 601122303) (fun K hK => ?_)
   refine nx_ S N4 E4 (fun v s k => hK.out _ _ trivial fun _ => ?_)
   refine nr_ ?_
   refine pu_ HT_ 9 15 (spec_l05Packet.m 601122815) ?_
   exact nrm_ (j23 (g5, a9, c9) _ ⟨s, (X.call k), (S.row L k)⟩)
 · clear S
   rintro g5 u ⟨S, X⟩
   refine pa_ ?_
   refine two_ (i := 11) (j := 13) (Ni := some 17) (Nj := some 19) (spec_l05Packet.m 601116671) (spec_l05Packet.m 601122815) rfl rfl rfl rfl (two_of HT_.out (by kernel_rfl)) (by decide) (by decide) (fun K hK => ?_) (fun K hK => ?_)
   · skip
     refine nx_ S N4 E5 (fun v s k => hK.out _ _ trivial fun _ => ?_)
     refine nr_ ?_
     refine pu_ HT_ 12 18 (spec_l05Packet.m 601120767) ?_
     exact nrm_ (j22 g5 _ ⟨s, (X.call k)⟩)
   · skip
     refine spec_l05Packet.li S (fun a9 c9 v L b => hK.out _ _ trivial fun _ => ?_)
     exact nrm_ (j23 (g5, a9, c9) _ ⟨(S.made b), (X.made b), L⟩)
 · clear S
   rintro ⟨a9, c9⟩ u ⟨S, L⟩
   refine pa_ ?_
   refine two_ (i := 11) (j := 29) (Ni := some 17) (Nj := some 5) (spec_l05Packet.m 64253951) (spec_l05Packet.m 601122815) rfl rfl rfl rfl (two_of HT_.out (by kernel_rfl)) (by decide) (by decide) (fun K hK => ?_) (fun K hK => ?_)
   · skip
     refine nx_ S N4 E5 (fun v s k => hK.out _ _ trivial fun _ => ?_)
     refine nr_ ?_
     refine pu_ HT_ 12 18 (spec_l05Packet.m 64258047) ?_
     exact nrm_ (j20 (a9, c9) _ ⟨s, (S.row L k)⟩)
   · skip
     refine spec_l05Packet.bx S HW0.out (fun g5 v X b => hK.out _ _ trivial fun _ => ?_)
     exact nrm_ (j23 (g5, a9, c9) _ ⟨(S.made b), X, (Kd.R_below L b)⟩)
 · clear S
   rintro _ u S
   refine pa_ ?_
   refine three_ (i := 13) (j := 15) (k := 29) (Ni := some 19) (Nj := some 21) (Nk := some 5) (spec_l05Packet.m 64258047) (spec_l05Packet.m 64282623) (spec_l05Packet.m 601120767) rfl rfl rfl rfl rfl rfl (three_of HT_.out (by kernel_rfl)) (by decide) (by decide) (by decide) (fun K hK => ?_) (fun K hK => ?_) (fun K hK => ?_)
   · skip
     refine spec_l05Packet.li S (fun a9 c9 v L b => hK.out _ _ trivial fun _ => ?_)
     exact nrm_ (j20 (a9, c9) _ ⟨(S.made b), L⟩)
   · skip
     refine nx_ S N4 E6 (fun v s k => hK.out _ _ trivial fun _ => ?_)
     exact nrm_ (j21 () _ s)
   · skip
     refine spec_l05Packet.bx S HW0.out (fun g5 v X b => hK.out _ _ trivial fun _ => ?_)
     exact nrm_ (j22 g5 _ ⟨(S.made b), X⟩)
 · clear S
   rintro ⟨g5, a9, c9⟩ u ⟨S, X, L⟩
   refine pa_ ?_
   refine on_ HT_ 6 (some 12) (spec_l05Packet.m 601122047) (fun K hK => ?_)
   refine nx_ S N4 E3 (fun v s k => hK.out _ _ trivial fun _ => ?_)
   exact nrm_ (j19 (g5, a9, c9) _ ⟨s, (X.call k), (S.row L k)⟩)
 · clear S
   rintro g5 u ⟨S, X⟩
   refine pa_ ?_
   refine two_ (i := 8) (j := 13) (Ni := some 14) (Nj := some 19) (spec_l05Packet.m 601114111) (spec_l05Packet.m 601122047) rfl rfl rfl rfl (two_of HT_.out (by kernel_rfl)) (by decide) (by decide) (fun K hK => ?_) (fun K hK => ?_)
   · skip
     refine nx_ S N4 E4 (fun v s k => hK.out _ _ trivial fun _ => ?_)
     refine nr_ ?_
     refine pu_ HT_ 9 15 (spec_l05Packet.m 601114623) ?_
     exact nrm_ (j18 g5 _ ⟨s, (X.call k)⟩)
   · skip
     refine spec_l05Packet.li S (fun a9 c9 v L b => hK.out _ _ trivial fun _ => ?_)
     exact nrm_ (j19 (g5, a9, c9) _ ⟨(S.made b), (X.made b), L⟩)
 · clear S
   rintro ⟨a9, c9⟩ u ⟨S, L⟩
   refine pa_ ?_
   refine two_ (i := 8) (j := 29) (Ni := some 14) (Nj := some 5) (spec_l05Packet.m 64251391) (spec_l05Packet.m 601122047) rfl rfl rfl rfl (two_of HT_.out (by kernel_rfl)) (by decide) (by decide) (fun K hK => ?_) (fun K hK => ?_)
   · skip
     refine nx_ S N4 E4 (fun v s k => hK.out _ _ trivial fun _ => ?_)
     refine nr_ ?_
     refine pu_ HT_ 9 15 (spec_l05Packet.m 64251903) ?_
     exact nrm_ (j17 (a9, c9) _ ⟨s, (S.row L k)⟩)
   · skip
     refine spec_l05Packet.bx S HW0.out (fun g5 v X b => hK.out _ _ trivial fun _ => ?_)
     exact nrm_ (j19 (g5, a9, c9) _ ⟨(S.made b), X, (Kd.R_below L b)⟩)
 · clear S
   rintro _ u S
   refine pa_ ?_
   refine three_ (i := 11) (j := 13) (k := 29) (Ni := some 17) (Nj := some 19) (Nk := some 5) (spec_l05Packet.m 64245759) (spec_l05Packet.m 64251903) (spec_l05Packet.m 601114623) rfl rfl rfl rfl rfl rfl (three_of HT_.out (by kernel_rfl)) (by decide) (by decide) (by decide) (fun K hK => ?_) (fun K hK => ?_) (fun K hK => ?_)
   · skip
     refine nx_ S N4 E5 (fun v s k => hK.out _ _ trivial fun _ => ?_)
     refine nr_ ?_
     refine pu_ HT_ 12 18 (spec_l05Packet.m 64249855) ?_
     exact nrm_ (j16 () _ s)
   · skip
     refine spec_l05Packet.li S (fun a9 c9 v L b => hK.out _ _ trivial fun _ => ?_)
     exact nrm_ (j17 (a9, c9) _ ⟨(S.made b), L⟩)
   · skip
     refine spec_l05Packet.bx S HW0.out (fun g5 v X b => hK.out _ _ trivial fun _ => ?_)
     exact nrm_ (j18 g5 _ ⟨(S.made b), X⟩)
 · clear S
   rintro ⟨g5, a9, c9⟩ u ⟨S, X, L⟩
   refine pa_ ?_
   refine on_ HT_ 3 (some 9) (spec_l05Packet.m 601121967) (fun K hK => ?_)
   refine nx_ S N4 E2 (fun v s k => hK.out _ _ trivial fun _ => ?_)
   refine nr_ ?_
   refine pu_ HT_ 4 10 (spec_l05Packet.m 601121983) ?_
   exact nrm_ (j15 (g5, a9, c9) _ ⟨s, (X.call k), (S.row L k)⟩)
 · clear S
   rintro g5 u ⟨S, X⟩
   refine pa_ ?_
   refine two_ (i := 6) (j := 13) (Ni := some 12) (Nj := some 19) (spec_l05Packet.m 601113855) (spec_l05Packet.m 601121983) rfl rfl rfl rfl (two_of HT_.out (by kernel_rfl)) (by decide) (by decide) (fun K hK => ?_) (fun K hK => ?_)
   · skip
     refine nx_ S N4 E3 (fun v s k => hK.out _ _ trivial fun _ => ?_)
     exact nrm_ (j14 g5 _ ⟨s, (X.call k)⟩)
   · skip
     refine spec_l05Packet.li S (fun a9 c9 v L b => hK.out _ _ trivial fun _ => ?_)
     exact nrm_ (j15 (g5, a9, c9) _ ⟨(S.made b), (X.made b), L⟩)
 · clear S
   rintro ⟨a9, c9⟩ u ⟨S, L⟩
   refine pa_ ?_
   refine two_ (i := 6) (j := 29) (Ni := some 12) (Nj := some 5) (spec_l05Packet.m 64251135) (spec_l05Packet.m 601121983) rfl rfl rfl rfl (two_of HT_.out (by kernel_rfl)) (by decide) (by decide) (fun K hK => ?_) (fun K hK => ?_)
   · skip
     refine nx_ S N4 E3 (fun v s k => hK.out _ _ trivial fun _ => ?_)
     exact nrm_ (j13 (a9, c9) _ ⟨s, (S.row L k)⟩)
   · skip
     refine spec_l05Packet.bx S HW0.out (fun g5 v X b => hK.out _ _ trivial fun _ => ?_)
     exact nrm_ (j15 (g5, a9, c9) _ ⟨(S.made b), X, (Kd.R_below L b)⟩)
 · clear S
   rintro _ u S
   refine pa_ ?_
   refine three_ (i := 8) (j := 13) (k := 29) (Ni := some 14) (Nj := some 19) (Nk := some 5) (spec_l05Packet.m 64243199) (spec_l05Packet.m 64251135) (spec_l05Packet.m 601113855) rfl rfl rfl rfl rfl rfl (three_of HT_.out (by kernel_rfl)) (by decide) (by decide) (by decide) (fun K hK => ?_) (fun K hK => ?_) (fun K hK => ?_)
   · skip
     refine nx_ S N4 E4 (fun v s k => hK.out _ _ trivial fun _ => ?_)
     refine nr_ ?_
     refine pu_ HT_ 9 15 (spec_l05Packet.m 64243711) ?_
     exact nrm_ (j12 () _ s)
   · skip
     refine spec_l05Packet.li S (fun a9 c9 v L b => hK.out _ _ trivial fun _ => ?_)
     exact nrm_ (j13 (a9, c9) _ ⟨(S.made b), L⟩)
   · skip
     refine spec_l05Packet.bx S HW0.out (fun g5 v X b => hK.out _ _ trivial fun _ => ?_)
     exact nrm_ (j14 g5 _ ⟨(S.made b), X⟩)
 · clear S
   rintro ⟨g5, a9, c9⟩ u ⟨S, X, L⟩
   refine pa_ ?_
   refine on_ HT_ 1 (some 7) (spec_l05Packet.m 601121959) (fun K hK => ?_)
   refine nx_ S N4 E1 (fun v s k => hK.out _ _ trivial fun _ => ?_)
   exact nrm_ (j11 (g5, a9, c9) _ ⟨s, (X.call k), (S.row L k)⟩)
 · clear S
   rintro g5 u ⟨S, X⟩
   refine pa_ ?_
   refine two_ (i := 3) (j := 13) (Ni := some 9) (Nj := some 19) (spec_l05Packet.m 601113775) (spec_l05Packet.m 601121959) rfl rfl rfl rfl (two_of HT_.out (by kernel_rfl)) (by decide) (by decide) (fun K hK => ?_) (fun K hK => ?_)
   · skip
     refine nx_ S N4 E2 (fun v s k => hK.out _ _ trivial fun _ => ?_)
     refine nr_ ?_
     refine pu_ HT_ 4 10 (spec_l05Packet.m 601113791) ?_
     exact nrm_ (j10 g5 _ ⟨s, (X.call k)⟩)
   · skip
     refine spec_l05Packet.li S (fun a9 c9 v L b => hK.out _ _ trivial fun _ => ?_)
     exact nrm_ (j11 (g5, a9, c9) _ ⟨(S.made b), (X.made b), L⟩)
 · clear S
   rintro ⟨a9, c9⟩ u ⟨S, L⟩
   refine pa_ ?_
   refine two_ (i := 3) (j := 29) (Ni := some 9) (Nj := some 5) (spec_l05Packet.m 64251055) (spec_l05Packet.m 601121959) rfl rfl rfl rfl (two_of HT_.out (by kernel_rfl)) (by decide) (by decide) (fun K hK => ?_) (fun K hK => ?_)
   · skip
     refine nx_ S N4 E2 (fun v s k => hK.out _ _ trivial fun _ => ?_)
     refine nr_ ?_
     refine pu_ HT_ 4 10 (spec_l05Packet.m 64251071) ?_
     exact nrm_ (j9 (a9, c9) _ ⟨s, (S.row L k)⟩)
   · skip
     refine spec_l05Packet.bx S HW0.out (fun g5 v X b => hK.out _ _ trivial fun _ => ?_)
     exact nrm_ (j11 (g5, a9, c9) _ ⟨(S.made b), X, (Kd.R_below L b)⟩)
 · clear S
   rintro _ u S
   refine pa_ ?_
   refine three_ (i := 6) (j := 13) (k := 29) (Ni := some 12) (Nj := some 19) (Nk := some 5) (spec_l05Packet.m 64242943) (spec_l05Packet.m 64251071) (spec_l05Packet.m 601113791) rfl rfl rfl rfl rfl rfl (three_of HT_.out (by kernel_rfl)) (by decide) (by decide) (by decide) (fun K hK => ?_) (fun K hK => ?_) (fun K hK => ?_)
   · skip
     refine nx_ S N4 E3 (fun v s k => hK.out _ _ trivial fun _ => ?_)
     exact nrm_ (j8 () _ s)
   · skip
     refine spec_l05Packet.li S (fun a9 c9 v L b => hK.out _ _ trivial fun _ => ?_)
     exact nrm_ (j9 (a9, c9) _ ⟨(S.made b), L⟩)
   · skip
     refine spec_l05Packet.bx S HW0.out (fun g5 v X b => hK.out _ _ trivial fun _ => ?_)
     exact nrm_ (j10 g5 _ ⟨(S.made b), X⟩)
 · clear S
   rintro g5 u ⟨S, X⟩
   refine pa_ ?_
   refine two_ (i := 1) (j := 13) (Ni := some 7) (Nj := some 19) (spec_l05Packet.m 601113767) (spec_l05Packet.m 601121957) rfl rfl rfl rfl (two_of HT_.out (by kernel_rfl)) (by decide) (by decide) (fun K hK => ?_) (fun K hK => ?_)
   · skip
     refine nx_ S N4 E1 (fun v s k => hK.out _ _ trivial fun _ => ?_)
     exact nrm_ (j6 g5 _ ⟨s, (X.call k)⟩)
   · skip
     refine spec_l05Packet.li S (fun a9 c9 v L b => hK.out _ _ trivial fun _ => ?_)
     exact nrm_ (j7 (g5, a9, c9) _ ⟨(S.made b), (X.made b), L⟩)
 · clear S
   rintro ⟨a9, c9⟩ u ⟨S, L⟩
   refine pa_ ?_
   refine two_ (i := 1) (j := 29) (Ni := some 7) (Nj := some 5) (spec_l05Packet.m 64251047) (spec_l05Packet.m 601121957) rfl rfl rfl rfl (two_of HT_.out (by kernel_rfl)) (by decide) (by decide) (fun K hK => ?_) (fun K hK => ?_)
   · skip
     refine nx_ S N4 E1 (fun v s k => hK.out _ _ trivial fun _ => ?_)
     exact nrm_ (j5 (a9, c9) _ ⟨s, (S.row L k)⟩)
   · skip
     refine spec_l05Packet.bx S HW0.out (fun g5 v X b => hK.out _ _ trivial fun _ => ?_)
     exact nrm_ (j7 (g5, a9, c9) _ ⟨(S.made b), X, (Kd.R_below L b)⟩)
 · clear S
   rintro _ u S
   refine pa_ ?_
   refine three_ (i := 3) (j := 13) (k := 29) (Ni := some 9) (Nj := some 19) (Nk := some 5) (spec_l05Packet.m 64242863) (spec_l05Packet.m 64251047) (spec_l05Packet.m 601113767) rfl rfl rfl rfl rfl rfl (three_of HT_.out (by kernel_rfl)) (by decide) (by decide) (by decide) (fun K hK => ?_) (fun K hK => ?_) (fun K hK => ?_)
   · skip
     refine nx_ S N4 E2 (fun v s k => hK.out _ _ trivial fun _ => ?_)
     refine nr_ ?_
     refine pu_ HT_ 4 10 (spec_l05Packet.m 64242879) ?_
     exact nrm_ (j4 () _ s)
   · skip
     refine spec_l05Packet.li S (fun a9 c9 v L b => hK.out _ _ trivial fun _ => ?_)
     exact nrm_ (j5 (a9, c9) _ ⟨(S.made b), L⟩)
   · skip
     refine spec_l05Packet.bx S HW0.out (fun g5 v X b => hK.out _ _ trivial fun _ => ?_)
     exact nrm_ (j6 g5 _ ⟨(S.made b), X⟩)
theorem spec_l05Packet.calls (k : Nat) (g : Nat) (c : List Int) (p t most : Int) (r0 : Int) (r1 : Int) (r2 : Bool) (r3 : Bool) (r4 : Int) (r5 : Int) (r6 : Int) (r7 : Int) (r8 : Int) (r9 : List Int) (aa : List Int) (ab : Int) (ac : Int) (w0 w : World) (hI : IsS61 w0 w g c p t) (hB : Below w0.heap.size w0 w) (h : spec_l05Packet.f k c p t most = some (r0, r1, r2, r3, r4, r5, r6, r7, r8, r9, aa, ab, ac)) :
    Calls Try.prog 29 #[.pointer (some ⟨g, 0, none⟩), .int .i64 most] w fun e w' => ∃ v9_ v10_ : Value, e = .returned (.agg #[.int .i64 r0, .int .i64 r1, .bool r2, .bool r3, .int .i64 r4, .int .i64 r5, .int .i64 r6, .int .i64 r7, .int .i64 r8, v9_, v10_]) ∧ Kd.R (Kd.int .u8) 5 w' w.heap.size (fun k_ => some k_ ≠ (v10_ : Value).ownBlock) v9_ r9 ∧ Kd.R (Kd.int .u8) 5 w' w.heap.size (fun k_ => some k_ ≠ (v9_ : Value).ownBlock) v10_ aa ∧ IsS61 w0 w' g c ab ac ∧ Below w0.heap.size w0 w' ∧ KeepBut w w' g none := (spec_l05Packet.walk k g c p t most r0 r1 r2 r3 r4 r5 r6 r7 r8 r9 aa ab ac w0 w hI hB h).mono fun _ _ h => h


end Go.Proofs.Ytckhadlmhbhngaa.PFnComplain
