-- Written for this claim by a program of this session (wip/mkprint.py: the print, turned at a few places). Not trusted: Lean checks it.
import Derived.Test.YtfllcmeakcbiaaaPFnOneBitx0
import Derived.Test.YtfllcmeakcbiaaaPFnOneBitx5
import Derived.Test.YtfllcmeakcbiaaaPFnOneBitx8
namespace Go.Proofs.Ytfllcmeakcbiaaa.PFnOneBit
open Go.RowKit Go.Proofs.YtfllcmeakcbiaaaW.PrintWords Go.Proofs.YtfllcmeakcbiaaaW.PrintLast Go.Proofs.YtfllcmeakcbiaaaW.PrintMore
attribute [local go_sem] max2_int min2_int max_two min_two max_three min_three max_four min_four   -- for this text's walks alone
set_option linter.unusedVariables false
set_option linter.unusedSimpArgs false

/-! ### spec_l11Draw: function 46 -/
/-! ### spec_l11Draw: function 46, walked by hand -/
def spec_l11Draw.l0 : Nat → Int → Int → List Int → Int → Int → List (S60) → Option (List (S60) × Int × Int)
  | 0, _, _, _, _, _, _ => none
  | k + 1, n, i, c, p, t, s => if i < n then ((spec_l01Seq.f c p t).bind fun a => ((spec_l01Seq.f c a.2.1 a.2.2).bind fun b => (if s.length < 8796093022208 then (spec_l11Draw.l0 k n (wrap64 (i + 1)) c b.2.1 b.2.2 (s ++ [(⟨a.1, b.1⟩ : S60)])) else none))) else some (s, p, t)
def spec_l11Draw.j3 (k : Nat) (x0 : Int) (x1 : Int) (x2 : Int) (x3 : Int) (x4 : Int) (x5 : Int) (x6 : Int) (x7 : Bool) (x8 : Int) (x9 : Bool) (c : List Int) (p t : Int) (dl : List Int) : Option (Int × Int × Int × Int × Int × Int × Int × Bool × Int × Bool × List (S60) × List Int × Int × Int) := (spec_l01Bool.f c p t).bind fun a => (spec_l01Next.f c a.2.1 a.2.2 5).bind fun b => (spec_l11Draw.l0 k b.1 1 c b.2.1 b.2.2 []).bind fun q => some (x0, x1, x2, x3, x4, x5, x6, x7, x8, a.1, q.1, dl, q.2.1, q.2.2)
def spec_l11Draw.j2 (k : Nat) (x0 : Int) (x1 : Int) (x2 : Int) (x3 : Int) (x4 : Int) (x5 : Int) (x6 : Int) (x7 : Bool) (x8 : Int) (x9 : Bool) (c : List Int) (p t : Int) (dl : List Int) : Option (Int × Int × Int × Int × Int × Int × Int × Bool × Int × Bool × List (S60) × List Int × Int × Int) := (spec_l01Bool.f c p t).bind fun a => if a.1 = true then ((spec_l01Next.f c a.2.1 a.2.2 15).bind fun b => (spec_l11Draw.j3 k x0 x1 x2 x3 x4 x5 x6 true b.1 x9 c b.2.1 b.2.2 dl)) else (spec_l11Draw.j3 k x0 x1 x2 x3 x4 x5 x6 x7 x8 x9 c a.2.1 a.2.2 dl)
def spec_l11Draw.j1 (k : Nat) (x0 : Int) (x1 : Int) (x2 : Int) (x3 : Int) (x4 : Int) (x5 : Int) (x6 : Int) (x7 : Bool) (x8 : Int) (x9 : Bool) (c : List Int) (p t : Int) (dl : List Int) : Option (Int × Int × Int × Int × Int × Int × Int × Bool × Int × Bool × List (S60) × List Int × Int × Int) := (spec_l01Bool.f c p t).bind fun a => if a.1 = true then ((spec_l01Next.f c a.2.1 a.2.2 1000).bind fun b => (spec_l11Draw.j2 k x0 x1 x2 x3 x4 x5 (wrap64 (536 + b.1)) x7 x8 x9 c b.2.1 b.2.2 dl)) else (spec_l11Draw.j2 k x0 x1 x2 x3 x4 x5 x6 x7 x8 x9 c a.2.1 a.2.2 dl)
def spec_l11Draw.j0 (k : Nat) (x0 : Int) (x1 : Int) (x2 : Int) (x3 : Int) (x4 : Int) (x5 : Int) (x6 : Int) (x7 : Bool) (x8 : Int) (x9 : Bool) (c : List Int) (p t : Int) (dl : List Int) : Option (Int × Int × Int × Int × Int × Int × Int × Bool × Int × Bool × List (S60) × List Int × Int × Int) := (spec_l01Next.f c p t 12).bind fun a => if a.1 = 0 then ((spec_l01Next.f c a.2.1 a.2.2 64).bind fun b => (spec_l11Draw.j1 k x0 x1 x2 x3 b.1 x5 x6 x7 x8 x9 c b.2.1 b.2.2 dl)) else (spec_l11Draw.j1 k x0 x1 x2 x3 x4 x5 x6 x7 x8 x9 c a.2.1 a.2.2 dl)
theorem spec_l11Draw.info60 : (Try.prog.info? 60).map (fun i => (i.zero, i.size, i.bytes)) = some (some (.agg #[(.int .i64 0), (.int .i64 0)]), 2, 16) := by kernel_rfl
def spec_l11Draw.f (k : Nat) (c : List Int) (p t most : Int) : Option (Int × Int × Int × Int × Int × Int × Int × Bool × Int × Bool × List (S60) × List Int × Int × Int) := ((spec_l01Next.f c p t 2).bind fun n1 => ((spec_l01Next.f c n1.2.1 n1.2.2 4).bind fun n2 => ((spec_l01Seq.f c n2.2.1 n2.2.2).bind fun n3 => ((spec_l01Seq.f c n3.2.1 n3.2.2).bind fun n4 => ((spec_l01Next.f c n4.2.1 n4.2.2 8).bind fun n5 => ((spec_l01Next.f c n5.2.1 n5.2.2 65536).bind fun n6 => ((spec_l01Next.f c n6.2.1 n6.2.2 most).bind fun n7 => ((spec_l01Bytes.f k c n7.2.1 n7.2.2 n7.1).bind fun n8 => (if 0 ≤ n5.1 then (if n5.1 < 8 then (spec_l11Draw.j0 k (wrap64 (1000 + n1.1)) (wrap64 (50 + n2.1)) n3.1 n4.1 (rd ([2, 18, 16, 24, 17, 4, 20, 0] : List Int) n5.1) n6.1 0 false 0 false c n8.2.1 n8.2.2 n8.1) else none) else none)))))))))
theorem spec_l11Draw.l0.mono_l : ∀ k y0 y1 y2 y3 y4 y5, LeO (spec_l11Draw.l0 k y0 y1 y2 y3 y4 y5) (spec_l11Draw.l0 (k + 1) y0 y1 y2 y3 y4 y5)
  | 0 => fun _ _ _ _ _ _ r h => by simp [spec_l11Draw.l0] at h
  | k + 1 => by
    have ih := spec_l11Draw.l0.mono_l k
    intro y0 y1 y2 y3 y4 y5
    unfold spec_l11Draw.l0
    repeat' first
      | (with_reducible exact ih _ _ _ _ _ _)
      | (with_reducible exact LeO.refl _)
      | (with_reducible exact LeO.none _)
      | (with_reducible refine LeO.ite ?_ ?_)
      | (with_reducible refine LeO.bind ?_ (fun _ => ?_))
      | exact LeO.none _
      | refine LeO.ite ?_ ?_
      | refine LeO.bind ?_ (fun _ => ?_)
      | exact ih _ _ _ _ _ _
theorem spec_l11Draw.j3.mono : ∀ y0 y1 y2 y3 y4 y5 y6 y7 y8 y9 aa ab ac ad k, LeO (spec_l11Draw.j3 k y0 y1 y2 y3 y4 y5 y6 y7 y8 y9 aa ab ac ad) (spec_l11Draw.j3 (k + 1) y0 y1 y2 y3 y4 y5 y6 y7 y8 y9 aa ab ac ad) := by
  intro y0 y1 y2 y3 y4 y5 y6 y7 y8 y9 aa ab ac ad k
  unfold spec_l11Draw.j3
  repeat' first
    | (with_reducible exact spec_l11Draw.l0.mono_l _ _ _ _ _ _ _)
    | (with_reducible exact LeO.refl _)
    | (with_reducible exact LeO.none _)
    | (with_reducible refine LeO.ite ?_ ?_)
    | (with_reducible refine LeO.bind ?_ (fun _ => ?_))
    | exact spec_l11Draw.l0.mono_l _ _ _ _ _ _ _
    | exact LeO.none _
    | refine LeO.ite ?_ ?_
    | refine LeO.bind ?_ (fun _ => ?_)
theorem spec_l11Draw.j2.mono : ∀ y0 y1 y2 y3 y4 y5 y6 y7 y8 y9 aa ab ac ad k, LeO (spec_l11Draw.j2 k y0 y1 y2 y3 y4 y5 y6 y7 y8 y9 aa ab ac ad) (spec_l11Draw.j2 (k + 1) y0 y1 y2 y3 y4 y5 y6 y7 y8 y9 aa ab ac ad) := by
  intro y0 y1 y2 y3 y4 y5 y6 y7 y8 y9 aa ab ac ad k
  unfold spec_l11Draw.j2
  repeat' first
    | (with_reducible exact spec_l11Draw.j3.mono _ _ _ _ _ _ _ _ _ _ _ _ _ _ _)
    | (with_reducible exact LeO.refl _)
    | (with_reducible exact LeO.none _)
    | (with_reducible refine LeO.ite ?_ ?_)
    | (with_reducible refine LeO.bind ?_ (fun _ => ?_))
    | exact spec_l11Draw.j3.mono _ _ _ _ _ _ _ _ _ _ _ _ _ _ _
    | exact LeO.none _
    | refine LeO.ite ?_ ?_
    | refine LeO.bind ?_ (fun _ => ?_)
theorem spec_l11Draw.j1.mono : ∀ y0 y1 y2 y3 y4 y5 y6 y7 y8 y9 aa ab ac ad k, LeO (spec_l11Draw.j1 k y0 y1 y2 y3 y4 y5 y6 y7 y8 y9 aa ab ac ad) (spec_l11Draw.j1 (k + 1) y0 y1 y2 y3 y4 y5 y6 y7 y8 y9 aa ab ac ad) := by
  intro y0 y1 y2 y3 y4 y5 y6 y7 y8 y9 aa ab ac ad k
  unfold spec_l11Draw.j1
  repeat' first
    | (with_reducible exact spec_l11Draw.j2.mono _ _ _ _ _ _ _ _ _ _ _ _ _ _ _)
    | (with_reducible exact LeO.refl _)
    | (with_reducible exact LeO.none _)
    | (with_reducible refine LeO.ite ?_ ?_)
    | (with_reducible refine LeO.bind ?_ (fun _ => ?_))
    | exact spec_l11Draw.j2.mono _ _ _ _ _ _ _ _ _ _ _ _ _ _ _
    | exact LeO.none _
    | refine LeO.ite ?_ ?_
    | refine LeO.bind ?_ (fun _ => ?_)
theorem spec_l11Draw.j0.mono : ∀ y0 y1 y2 y3 y4 y5 y6 y7 y8 y9 aa ab ac ad k, LeO (spec_l11Draw.j0 k y0 y1 y2 y3 y4 y5 y6 y7 y8 y9 aa ab ac ad) (spec_l11Draw.j0 (k + 1) y0 y1 y2 y3 y4 y5 y6 y7 y8 y9 aa ab ac ad) := by
  intro y0 y1 y2 y3 y4 y5 y6 y7 y8 y9 aa ab ac ad k
  unfold spec_l11Draw.j0
  repeat' first
    | (with_reducible exact spec_l11Draw.j1.mono _ _ _ _ _ _ _ _ _ _ _ _ _ _ _)
    | (with_reducible exact LeO.refl _)
    | (with_reducible exact LeO.none _)
    | (with_reducible refine LeO.ite ?_ ?_)
    | (with_reducible refine LeO.bind ?_ (fun _ => ?_))
    | exact spec_l11Draw.j1.mono _ _ _ _ _ _ _ _ _ _ _ _ _ _ _
    | exact LeO.none _
    | refine LeO.ite ?_ ?_
    | refine LeO.bind ?_ (fun _ => ?_)
theorem spec_l11Draw.mono : ∀ y0 y1 y2 y3 k, LeO (spec_l11Draw.f k y0 y1 y2 y3) (spec_l11Draw.f (k + 1) y0 y1 y2 y3) := by
  intro y0 y1 y2 y3 k
  unfold spec_l11Draw.f
  repeat' first
    | (with_reducible exact spec_l01Bytes.mono _ _ _ _ _)
    | (with_reducible exact spec_l11Draw.j0.mono _ _ _ _ _ _ _ _ _ _ _ _ _ _ _)
    | (with_reducible exact LeO.refl _)
    | (with_reducible exact LeO.none _)
    | (with_reducible refine LeO.ite ?_ ?_)
    | (with_reducible refine LeO.bind ?_ (fun _ => ?_))
    | exact spec_l01Bytes.mono _ _ _ _ _
    | exact spec_l11Draw.j0.mono _ _ _ _ _ _ _ _ _ _ _ _ _ _ _
    | exact LeO.none _
    | refine LeO.ite ?_ ?_
    | refine LeO.bind ?_ (fun _ => ?_)
def spec_l11Draw.T1 : Bool × List (List Nat × List Nat) := (true, [([], []), ([0], [0]), ([1], [1]), ([], []), ([3, 1], [3]), ([4], [4]), ([], []), ([6, 4], [6]), ([], []), ([8, 7], [8]), ([], []), ([], []), ([11, 9], [11]), ([10, 12], [10, 12]), ([13], [13]), ([], []), ([15, 12], [15]), ([], []), ([], []), ([], []), ([18, 19, 16], [18, 19]), ([17, 20, 20], [17, 20]), ([2, 5, 7, 9, 14, 16, 21], [2, 5, 7, 9, 14, 16, 21]), ([], []), ([23, 22, 21, 0, 1, 2, 3, 4, 5, 6, 7, 8, 9, 10, 11, 12, 13, 14, 15, 16, 17, 18, 19, 20, 21, 22, 23], [22, 23])])
def spec_l11Draw.B1 : List Nat := [0, 1, 3, 0, 11, 27, 0, 91, 0, 475, 0, 0, 3035, 8155, 16347, 0, 39899, 0, 0, 0, 891867, 2071515, 4194303, 0, 16777215]
theorem spec_l11Draw.tab1 : rtab .any (opsOf Try.f46 1) = spec_l11Draw.T1 := by kernel_rfl
theorem spec_l11Draw.bits1 : waitsOk spec_l11Draw.T1.2 spec_l11Draw.B1 = true := by kernel_rfl
def spec_l11Draw.T14 : Bool × List (List Nat × List Nat) := (true, [([], []), ([0], [0]), ([], []), ([2], [2]), ([], []), ([4, 3], [4]), ([3, 5], [3, 5]), ([6], [6]), ([1, 7, 5], [1, 7]), ([0, 1, 2, 3, 4, 5, 6, 7, 8], []), ([9, 8, 8, 0, 1, 2, 3, 4, 5, 6, 7, 8], [8, 9])])
def spec_l11Draw.B14 : List Nat := [0, 1, 0, 4, 0, 28, 60, 124, 255, 511, 1023]
theorem spec_l11Draw.tab14 : rtab .any (opsOf Try.f46 14) = spec_l11Draw.T14 := by kernel_rfl
theorem spec_l11Draw.bits14 : waitsOk spec_l11Draw.T14.2 spec_l11Draw.B14 = true := by kernel_rfl
def spec_l11Draw.Post (g : Nat) (c : List Int) (r0 : Int) (r1 : Int) (r2 : Int) (r3 : Int) (r4 : Int) (r5 : Int) (r6 : Int) (r7 : Bool) (r8 : Int) (r9 : Bool) (aa : List (S60)) (ab : List Int) (ac : Int) (ad : Int) (w0 w : World) (e : Ending) (w' : World) : Prop := ∃ v10_ v11_ : Value, e = .returned (.agg #[.int .i64 r0, .int .i64 r1, .int .i64 r2, .int .i64 r3, .int .i64 r4, .int .i64 r5, .int .i64 r6, .bool r7, .int .i64 r8, .bool r9, v10_, v11_]) ∧ Kd.R k60 60 w' w.heap.size (fun _ => True) v10_ aa ∧ Kd.R (Kd.int .u8) 5 w' w.heap.size (fun _ => True) v11_ ab ∧ IsS64 w0 w' g c ac ad ∧ Below w0.heap.size w0 w' ∧ KeepBut w w' g none
/-- a row of the call's own: its blocks lie above its base -/
theorem R_ge {α : Type} {d : Kd α} {e : Nat} {w : World} {base : Nat} {ok : Nat → Prop} {v : Value} {xs : List α} (h : d.R e w base ok v xs) : d.R e w base (fun k => base ≤ k) v xs := Kd.R_mono (Kd.R_bound h) (fun _ hk => hk.2.1)
theorem own_new {α : Type} {d : Kd α} {e : Nat} {w : World} {base : Nat} {ok : Nat → Prop} {v : Value} {xs : List α} (h : d.R e w base ok v xs) : v.ownBlock = none ∨ ∃ b, v.ownBlock = some b ∧ base ≤ b := Kd.R_base2 h
def m25 (b : Nat) : Array Bool := ((List.range 25).map fun i => b.testBit i).toArray
theorem nrm_ {P : Program} {ops : Array Oper} {Q : Exit → Act → World → Prop} {md : Region.Mode} {S : World → Prop} {ds : List Nat} {fuel : Nat} {l : Array Bool} {a a' : Act} {w : World} (h : wpAnyLast P md ops Q S ds fuel l a' w) (ha : a = a' := by first | (simp only [putAll, Act.put, List.setIfInBounds_toArray, List.set_cons_zero, List.set_cons_succ]; done) | (simp only [putAll, Act.put, List.setIfInBounds_toArray, List.set_cons_zero, List.set_cons_succ]; rfl)) : wpAnyLast P md ops Q S ds fuel l a w := norm_ ha h
abbrev Z25 (u : World) (g : Nat) : Prop := u.heap[g]? = some (.cells #[.int .i64 0, .int .i64 0, .int .i64 0, .int .i64 0, .int .i64 0, .int .i64 0, .int .i64 0, .bool false, .int .i64 0, .bool false, .slice none 0 0, .slice none 0 0] 25 (0, 0))
def spec_l11Draw.St (w0 w : World) (g : Nat) (c : List Int) (g4 : Nat) (p t : Int) (u : World) : Prop := IsS64 w0 u g c p t ∧ Below w0.heap.size w0 u ∧ KeepBut w u g none ∧ Z25 u g4
theorem spec_l11Draw.St.call {w0 w u v : World} {g : Nat} {c : List Int} {g4 : Nat} {p t p' t' : Int} (h : spec_l11Draw.St w0 w g c g4 p t u) (n4 : g4 ≠ g) (hi : IsS64 w0 v g c p' t') (hb : Below w0.heap.size w0 v) (hk : KeepBut u v g none) : spec_l11Draw.St w0 w g c g4 p' t' v := ⟨hi, hb, KeepBut.trans h.2.2.1 hk (.inl rfl), KeepBut.blk hk h.2.2.2 n4 (by simp)⟩
theorem spec_l11Draw.St.made {w0 w u v : World} {g : Nat} {c : List Int} {g4 : Nat} {p t : Int} (h : spec_l11Draw.St w0 w g c g4 p t u) (hb : Below u.heap.size u v) : spec_l11Draw.St w0 w g c g4 p t v := ⟨IsS64.below h.1 hb, below_step h.2.1 hb, KeepBut.trans h.2.2.1 (KeepBut.of_below hb g none) (.inl rfl), blk_below h.2.2.2 hb⟩
theorem spec_l11Draw.St.i {w0 w u : World} {g : Nat} {c : List Int} {g4 : Nat} {p t : Int} (h : spec_l11Draw.St w0 w g c g4 p t u) : IsS64 w0 u g c p t := h.1
theorem spec_l11Draw.St.b {w0 w u : World} {g : Nat} {c : List Int} {g4 : Nat} {p t : Int} (h : spec_l11Draw.St w0 w g c g4 p t u) : Below w0.heap.size w0 u := h.2.1
def spec_l11Draw.Bx (w0 w : World) (g g4 g5 : Nat) (u : World) : Prop := Z25 u g5 ∧ w.heap.size ≤ g5 ∧ w0.heap.size ≤ g5 ∧ g5 ≠ g ∧ g4 ≠ g5
theorem spec_l11Draw.Bx.call {w0 w u v : World} {g g4 g5 : Nat} (h : spec_l11Draw.Bx w0 w g g4 g5 u) (hk : KeepBut u v g none) : spec_l11Draw.Bx w0 w g g4 g5 v := ⟨KeepBut.blk hk h.1 h.2.2.2.1 (by simp), h.2⟩
theorem spec_l11Draw.Bx.made {w0 w u v : World} {g g4 g5 : Nat} (h : spec_l11Draw.Bx w0 w g g4 g5 u) (hb : Below u.heap.size u v) : spec_l11Draw.Bx w0 w g g4 g5 v := ⟨blk_below h.1 hb, h.2⟩
theorem spec_l11Draw.Bx_new {w0 w u v : World} {g : Nat} {c : List Int} {g4 g5 : Nat} {p t : Int} (h : spec_l11Draw.St w0 w g c g4 p t u) (hw : w0.heap.size ≤ w.heap.size) (hg : g5 = u.heap.size) (hbox : Z25 v g5) : spec_l11Draw.Bx w0 w g g4 g5 v := by
  subst hg
  exact ⟨hbox, keep_size h.2.2.1, Nat.le_trans hw (keep_size h.2.2.1), IsS64.fresh h.1 _ (Nat.le_refl _), Nat.ne_of_lt (blk_lt h.2.2.2)⟩
theorem row_call {w0 w u v : World} {g : Nat} {c : List Int} {g4 : Nat} {p t : Int} {α : Type} {d : Kd α} {e base : Nat} {x : Value} {xs : List α} (h : spec_l11Draw.St w0 w g c g4 p t u) (hr : d.R e u base (fun _ => True) x xs) (ht : ∀ q, q ∈ e :: d.E → q ≠ 64) (hk : KeepBut u v g none) : d.R e v base (fun _ => True) x xs := Kd.R_mono (Kd.R_keep (IsS64.apart h.1 hr ht) hk (fun _ h_ => h_.2)) (fun _ h_ => h_.1)
theorem spec_l11Draw.lit (w : World) (base : Nat) (ok : Nat → Prop) : Reps (Kd.M (Kd.int .i64) w base ok) 1 ([2, 18, 16, 24, 17, 4, 20, 0] : List Int) [.int .i64 2, .int .i64 18, .int .i64 16, .int .i64 24, .int .i64 17, .int .i64 4, .int .i64 20, .int .i64 0] := (Reps.one (show Kd.M (Kd.int .i64) _ _ _ 2 [.int .i64 2] from rfl) (Reps.one (show Kd.M (Kd.int .i64) _ _ _ 18 [.int .i64 18] from rfl) (Reps.one (show Kd.M (Kd.int .i64) _ _ _ 16 [.int .i64 16] from rfl) (Reps.one (show Kd.M (Kd.int .i64) _ _ _ 24 [.int .i64 24] from rfl) (Reps.one (show Kd.M (Kd.int .i64) _ _ _ 17 [.int .i64 17] from rfl) (Reps.one (show Kd.M (Kd.int .i64) _ _ _ 4 [.int .i64 4] from rfl) (Reps.one (show Kd.M (Kd.int .i64) _ _ _ 20 [.int .i64 20] from rfl) (Reps.one (show Kd.M (Kd.int .i64) _ _ _ 0 [.int .i64 0] from rfl) (Reps.none _ _)))))))))
set_option maxHeartbeats 60000000 in
set_option maxRecDepth 100000 in
theorem spec_l11Draw.walk (k : Nat) (g : Nat) (c : List Int) (p t most : Int) (r0 : Int) (r1 : Int) (r2 : Int) (r3 : Int) (r4 : Int) (r5 : Int) (r6 : Int) (r7 : Bool) (r8 : Int) (r9 : Bool) (aT : List (S60)) (aU : List Int) (aV : Int) (aW : Int) (w0 w : World) (hI : IsS64 w0 w g c p t) (hB : Below w0.heap.size w0 w) (h : spec_l11Draw.f k c p t most = some (r0, r1, r2, r3, r4, r5, r6, r7, r8, r9, aT, aU, aV, aW)) :
    Calls Try.prog 46 #[.pointer (some ⟨g, 0, none⟩), .int .i64 most] w (spec_l11Draw.Post g c r0 r1 r2 r3 r4 r5 r6 r7 r8 r9 aT aU aV aW w0 w) := by
  have hu25 := Try.underlying25
  have hu60 := Try.underlying60
  have HI := Aside0.mk hI
  have HK := Aside0.mk (KeepBut.refl w g none)
  have HW0 := Aside0.mk hB.size
  have HB := Aside0.mk hB
  clear hI hB
  have H : spec_l11Draw.f k c p t most = some (r0, r1, r2, r3, r4, r5, r6, r7, r8, r9, aT, aU, aV, aW) := h
  clear h
  unfold spec_l11Draw.f at H
  replace H := Option.bind_eq_some_iff.mp H
  obtain ⟨⟨n1, p1, t1⟩, A, H⟩ := H
  dsimp only at A H
  have E1 := Aside0.mk A
  clear A
  replace H := Option.bind_eq_some_iff.mp H
  obtain ⟨⟨n2, p2, t2⟩, A, H⟩ := H
  dsimp only at A H
  have E2 := Aside0.mk A
  clear A
  replace H := Option.bind_eq_some_iff.mp H
  obtain ⟨⟨n3, p3, t3⟩, A, H⟩ := H
  dsimp only at A H
  have E3 := Aside0.mk A
  clear A
  replace H := Option.bind_eq_some_iff.mp H
  obtain ⟨⟨n4, p4, t4⟩, A, H⟩ := H
  dsimp only at A H
  have E4 := Aside0.mk A
  clear A
  replace H := Option.bind_eq_some_iff.mp H
  obtain ⟨⟨n5, p5, t5⟩, A, H⟩ := H
  dsimp only at A H
  have E5 := Aside0.mk A
  clear A
  replace H := Option.bind_eq_some_iff.mp H
  obtain ⟨⟨n6, p6, t6⟩, A, H⟩ := H
  dsimp only at A H
  have E6 := Aside0.mk A
  clear A
  replace H := Option.bind_eq_some_iff.mp H
  obtain ⟨⟨n7, p7, t7⟩, A, H⟩ := H
  dsimp only at A H
  have E7 := Aside0.mk A
  clear A
  replace H := Option.bind_eq_some_iff.mp H
  obtain ⟨⟨dl, p8, t8⟩, A, H⟩ := H
  dsimp only at A H
  have E8 := Aside0.mk A
  clear A
  by_cases b1 : 0 ≤ n5
  rotate_left
  · rw [if_neg b1] at H
    cases H
  rw [if_pos b1] at H
  by_cases b2 : n5 < 8
  rotate_left
  · rw [if_neg b2] at H
    cases H
  rw [if_pos b2] at H
  have HN5 := Aside0.mk b1
  have HN8 := Aside0.mk b2
  clear b1 b2
  obtain ⟨fl, hfl⟩ : ∃ l_ : List Int, l_ = ([2, 18, 16, 24, 17, 4, 20, 0] : List Int) := ⟨_, rfl⟩
  rw [← hfl] at H
  have HFL := Aside0.mk hfl
  have HFN : Aside0 (fl.length = 8) := ⟨by rw [hfl]; rfl⟩
  clear hfl
  have HJ := Aside0.mk H
  clear H
  go_enter Try.func46, Try.ntmps46
  go_upto_region 1 with (first | ((with_reducible refine gate_dst (N := 4) rfl ?_); refine box_event ?hg (N := 4) ?hd (cs := #[.int .i64 0, .int .i64 0, .int .i64 0, .int .i64 0, .int .i64 0, .int .i64 0, .int .i64 0, .bool false, .int .i64 0, .bool false, .slice none 0 0, .slice none 0 0]) (t := 25) ?hr ?_; (case hd => rfl); (case hg => rfl); (case hr => first | (go_simp; done) | (go_simp; rfl)); intro g4 hg v1 hbox hb; have K4 := Aside0.mk (show v1.heap[g4]? = some (.cells #[.int .i64 0, .int .i64 0, .int .i64 0, .int .i64 0, .int .i64 0, .int .i64 0, .int .i64 0, .bool false, .int .i64 0, .bool false, .slice none 0 0, .slice none 0 0] 25 (0, 0)) from hbox); have G4 := Aside0.mk ((by rw [hg]; exact keep_size HK.out) : w.heap.size ≤ g4); have X4 := Aside0.mk ((Nat.le_trans HW0.out (by rw [hg]; exact keep_size HK.out)) : w0.heap.size ≤ g4); have N4 := Aside0.mk (IsS64.fresh HI.out g4 (Nat.le_of_eq hg.symm)); replace HI := Aside0.mk (IsS64.below HI.out hb); replace HK := Aside0.mk (KeepBut.trans HK.out (KeepBut.of_below hb g none) (.inl rfl)); replace HB := Aside0.mk (below_step HB.out hb); clear hb hbox hg))
  refine start_ (n := 25) (S := fun w' => True) (ds := []) (m25 0) (by kernel_rfl) rfl rfl trivial (fun hHeld => ?_)
  refine with_tabW spec_l11Draw.tab1 spec_l11Draw.bits1 (fun HT_ HW_ => ?_)
  replace K4 := Aside0.mk (blk_drew K4.out)
  replace HI := Aside0.mk (IsS64.drew HI.out)
  replace HK := Aside0.mk (keep_drew HK.out)
  replace HB := Aside0.mk (below_drew1 HB.out)
  generalize v1.drew = u0 at K4 HI HK HB hHeld ⊢
  have S : spec_l11Draw.St w0 w g c g4 p t u0 := ⟨HI.out, HB.out, HK.out, K4.out⟩
  clear HI HB HK K4 hHeld
  have h5a := HN5.out
  have h5b : n5 < (fl.length : Int) := by rw [HFN.out]; exact HN8.out
  refine pure_ (i := 0) (N := some 8) (v := ?_) (a' := ?_) (m25 1) rfl rfl (any_of HT_.out (by kernel_rfl)) (fun _ _ _ h => h) (Or.inl ⟨by rfl, ?_⟩) ?_ ?_
  rotate_left
  {
    intro w'
    go_simp
    with_reducible rfl
  }
  rotate_left
  {
    simp only [Act.put, List.setIfInBounds_toArray, List.set_cons_zero, List.set_cons_succ, i64_w, i32_w]
    rfl
  }
  refine pure_ (i := 3) (N := some 11) (v := ?_) (a' := ?_) (m25 9) rfl rfl (any_of HT_.out (by kernel_rfl)) (fun _ _ _ h => h) (Or.inl ⟨by rfl, ?_⟩) ?_ ?_
  rotate_left
  {
    intro w'
    go_simp
    with_reducible rfl
  }
  rotate_left
  {
    simp only [Act.put, List.setIfInBounds_toArray, List.set_cons_zero, List.set_cons_succ, i64_w, i32_w]
    rfl
  }
  refine pure_ (i := 6) (N := some 14) (v := ?_) (a' := ?_) (m25 73) rfl rfl (any_of HT_.out (by kernel_rfl)) (fun _ _ _ h => h) (Or.inl ⟨by rfl, ?_⟩) ?_ ?_
  rotate_left
  {
    intro w'
    go_simp
    with_reducible rfl
  }
  rotate_left
  {
    simp only [Act.put, List.setIfInBounds_toArray, List.set_cons_zero, List.set_cons_succ, i64_w, i32_w]
    rfl
  }
  refine pure_ (i := 8) (N := some 16) (v := ?_) (a' := ?_) (m25 329) rfl rfl (any_of HT_.out (by kernel_rfl)) (fun _ _ _ h => h) (Or.inl ⟨by rfl, ?_⟩) ?_ ?_
  rotate_left
  {
    intro w'
    go_simp
    with_reducible rfl
  }
  rotate_left
  {
    simp only [Act.put, List.setIfInBounds_toArray, List.set_cons_zero, List.set_cons_succ, i64_w, i32_w]
    rfl
  }
  refine pure_ (i := 11) (N := some 19) (v := ?_) (a' := ?_) (m25 2377) rfl rfl (any_of HT_.out (by kernel_rfl)) (fun _ _ _ h => h) (Or.inl ⟨by rfl, ?_⟩) ?_ ?_
  rotate_left
  {
    intro w'
    go_simp
    with_reducible rfl
  }
  rotate_left
  {
    simp only [Act.put, List.setIfInBounds_toArray, List.set_cons_zero, List.set_cons_succ, i64_w, i32_w]
    rfl
  }
  refine pure_ (i := 15) (N := some 23) (v := ?_) (a' := ?_) (m25 35145) rfl rfl (any_of HT_.out (by kernel_rfl)) (fun _ _ _ h => h) (Or.inl ⟨by rfl, ?_⟩) ?_ ?_
  rotate_left
  {
    intro w'
    go_simp
    with_reducible rfl
  }
  rotate_left
  {
    simp only [Act.put, List.setIfInBounds_toArray, List.set_cons_zero, List.set_cons_succ, i64_w, i32_w]
    rfl
  }
  refine pure_ (i := 17) (N := some 25) (v := ?_) (a' := ?_) (m25 166217) rfl rfl (any_of HT_.out (by kernel_rfl)) (fun _ _ _ h => h) (Or.inl ⟨by rfl, ?_⟩) ?_ ?_
  rotate_left
  {
    intro w'
    go_simp
    with_reducible rfl
  }
  rotate_left
  {
    simp only [Act.put, List.setIfInBounds_toArray, List.set_cons_zero, List.set_cons_succ, i64_w, i32_w]
    rfl
  }
  refine pure_ (i := 18) (N := some 26) (v := ?_) (a' := ?_) (m25 428361) rfl rfl (any_of HT_.out (by kernel_rfl)) (fun _ _ _ h => h) (Or.inl ⟨by rfl, ?_⟩) ?_ ?_
  rotate_left
  {
    intro w'
    go_simp
    with_reducible rfl
  }
  rotate_left
  {
    simp only [Act.put, List.setIfInBounds_toArray, List.set_cons_zero, List.set_cons_succ, i64_w, i32_w]
    rfl
  }
  refine pure_ (i := 19) (N := some 27) (v := ?_) (a' := ?_) (m25 952649) rfl rfl (any_of HT_.out (by kernel_rfl)) (fun _ _ _ h => h) (Or.inl ⟨by rfl, ?_⟩) ?_ ?_
  rotate_left
  {
    intro w'
    go_simp
    with_reducible rfl
  }
  rotate_left
  {
    simp only [Act.put, List.setIfInBounds_toArray, List.set_cons_zero, List.set_cons_succ, i64_w, i32_w]
    rfl
  }
  refine join_ (σ := Nat × Addr × Nat × Option Addr × Nat) 1 (m25 16777215) (fun s_ => [(9, .int .i64 n1), (12, .int .i64 n2), (15, .int .i64 n3), (17, .int .i64 n4), (18, .slice (some s_.2.1) fl.length s_.2.2.1), (20, .int .i64 n5), (22, .int .i64 (rd fl n5)), (24, .int .i64 n6), (28, .int .i64 n7), (29, .slice s_.2.2.2.1 dl.length s_.2.2.2.2), (5, .pointer (some ⟨s_.1, 0, none⟩)), (10, .int .i64 (wrap64 (1000 + n1))), (13, .int .i64 (wrap64 (50 + n2))), (21, .pointer (some (s_.2.1.add (n5).toNat))), (30, .agg #[.int .i64 (wrap64 (1000 + n1)), .int .i64 (wrap64 (50 + n2)), .int .i64 n3, .int .i64 n4, .int .i64 (rd fl n5), .int .i64 n6, .int .i64 0, .bool false, .int .i64 0, .bool false, .slice none 0 0, .slice s_.2.2.2.1 dl.length s_.2.2.2.2])]) (fun s_ w' => (spec_l11Draw.St w0 w g c g4 p8 t8 w') ∧ (spec_l11Draw.Bx w0 w g g4 s_.1 w') ∧ (Kd.R (Kd.int .u8) 5 w' w.heap.size (fun _ => True) (.slice s_.2.2.2.1 dl.length s_.2.2.2.2) dl)) ?_ ?_
  rotate_left
  intro ac
  refine join_ (σ := Nat × Addr × Nat × Option Addr × Nat) 3 (m25 12566527) (fun s_ => [(9, .int .i64 n1), (12, .int .i64 n2), (15, .int .i64 n3), (17, .int .i64 n4), (18, .slice (some s_.2.1) fl.length s_.2.2.1), (20, .int .i64 n5), (24, .int .i64 n6), (28, .int .i64 n7), (29, .slice s_.2.2.2.1 dl.length s_.2.2.2.2), (5, .pointer (some ⟨s_.1, 0, none⟩)), (10, .int .i64 (wrap64 (1000 + n1))), (13, .int .i64 (wrap64 (50 + n2))), (21, .pointer (some (s_.2.1.add (n5).toNat)))]) (fun s_ w' => (spec_l11Draw.St w0 w g c g4 p8 t8 w') ∧ (spec_l11Draw.Bx w0 w g g4 s_.1 w') ∧ (Kd.R (Kd.int .i64) 2 w' w.heap.size (fun _ => True) (.slice (some s_.2.1) fl.length s_.2.2.1) fl) ∧ (Kd.R (Kd.int .u8) 5 w' w.heap.size (fun _ => True) (.slice s_.2.2.2.1 dl.length s_.2.2.2.2) dl)) ?_ ?_
  rotate_left
  intro ad
  refine join_ (σ := Nat × Addr × Nat × Option Addr × Nat) 3 (m25 10485759) (fun s_ => [(9, .int .i64 n1), (12, .int .i64 n2), (15, .int .i64 n3), (17, .int .i64 n4), (18, .slice (some s_.2.1) fl.length s_.2.2.1), (20, .int .i64 n5), (22, .int .i64 (rd fl n5)), (24, .int .i64 n6), (28, .int .i64 n7), (5, .pointer (some ⟨s_.1, 0, none⟩)), (10, .int .i64 (wrap64 (1000 + n1))), (13, .int .i64 (wrap64 (50 + n2))), (21, .pointer (some (s_.2.1.add (n5).toNat)))]) (fun s_ w' => (spec_l11Draw.St w0 w g c g4 p7 t7 w') ∧ (spec_l11Draw.Bx w0 w g g4 s_.1 w')) ?_ ?_
  rotate_left
  intro ae
  refine join_ (σ := Nat × Addr × Nat × Option Addr × Nat) 2 (m25 8388607) (fun s_ => [(9, .int .i64 n1), (12, .int .i64 n2), (15, .int .i64 n3), (17, .int .i64 n4), (18, .slice (some s_.2.1) fl.length s_.2.2.1), (20, .int .i64 n5), (22, .int .i64 (rd fl n5)), (24, .int .i64 n6), (28, .int .i64 n7), (29, .slice s_.2.2.2.1 dl.length s_.2.2.2.2), (10, .int .i64 (wrap64 (1000 + n1))), (13, .int .i64 (wrap64 (50 + n2))), (21, .pointer (some (s_.2.1.add (n5).toNat))), (30, .agg #[.int .i64 (wrap64 (1000 + n1)), .int .i64 (wrap64 (50 + n2)), .int .i64 n3, .int .i64 n4, .int .i64 (rd fl n5), .int .i64 n6, .int .i64 0, .bool false, .int .i64 0, .bool false, .slice none 0 0, .slice s_.2.2.2.1 dl.length s_.2.2.2.2])]) (fun s_ w' => (spec_l11Draw.St w0 w g c g4 p8 t8 w') ∧ (Kd.R (Kd.int .u8) 5 w' w.heap.size (fun _ => True) (.slice s_.2.2.2.1 dl.length s_.2.2.2.2) dl)) ?_ ?_
  rotate_left
  intro ai
  refine join_ (σ := Nat × Addr × Nat × Option Addr × Nat) 5 (m25 12557311) (fun s_ => [(9, .int .i64 n1), (12, .int .i64 n2), (15, .int .i64 n3), (17, .int .i64 n4), (20, .int .i64 n5), (24, .int .i64 n6), (28, .int .i64 n7), (29, .slice s_.2.2.2.1 dl.length s_.2.2.2.2), (5, .pointer (some ⟨s_.1, 0, none⟩)), (10, .int .i64 (wrap64 (1000 + n1))), (13, .int .i64 (wrap64 (50 + n2)))]) (fun s_ w' => (spec_l11Draw.St w0 w g c g4 p8 t8 w') ∧ (spec_l11Draw.Bx w0 w g g4 s_.1 w') ∧ (Kd.R (Kd.int .u8) 5 w' w.heap.size (fun _ => True) (.slice s_.2.2.2.1 dl.length s_.2.2.2.2) dl)) ?_ ?_
  rotate_left
  intro aj
  refine join_ (σ := Nat × Addr × Nat × Option Addr × Nat) 4 (m25 10469375) (fun s_ => [(9, .int .i64 n1), (12, .int .i64 n2), (15, .int .i64 n3), (17, .int .i64 n4), (18, .slice (some s_.2.1) fl.length s_.2.2.1), (20, .int .i64 n5), (24, .int .i64 n6), (28, .int .i64 n7), (5, .pointer (some ⟨s_.1, 0, none⟩)), (10, .int .i64 (wrap64 (1000 + n1))), (13, .int .i64 (wrap64 (50 + n2))), (21, .pointer (some (s_.2.1.add (n5).toNat)))]) (fun s_ w' => (spec_l11Draw.St w0 w g c g4 p7 t7 w') ∧ (spec_l11Draw.Bx w0 w g g4 s_.1 w') ∧ (Kd.R (Kd.int .i64) 2 w' w.heap.size (fun _ => True) (.slice (some s_.2.1) fl.length s_.2.2.1) fl)) ?_ ?_
  rotate_left
  intro af
  refine join_ (σ := Nat × Addr × Nat × Option Addr × Nat) 4 (m25 4177919) (fun s_ => [(9, .int .i64 n1), (12, .int .i64 n2), (15, .int .i64 n3), (17, .int .i64 n4), (18, .slice (some s_.2.1) fl.length s_.2.2.1), (20, .int .i64 n5), (24, .int .i64 n6), (28, .int .i64 n7), (29, .slice s_.2.2.2.1 dl.length s_.2.2.2.2), (10, .int .i64 (wrap64 (1000 + n1))), (13, .int .i64 (wrap64 (50 + n2))), (21, .pointer (some (s_.2.1.add (n5).toNat)))]) (fun s_ w' => (spec_l11Draw.St w0 w g c g4 p8 t8 w') ∧ (Kd.R (Kd.int .i64) 2 w' w.heap.size (fun _ => True) (.slice (some s_.2.1) fl.length s_.2.2.1) fl) ∧ (Kd.R (Kd.int .u8) 5 w' w.heap.size (fun _ => True) (.slice s_.2.2.2.1 dl.length s_.2.2.2.2) dl)) ?_ ?_
  rotate_left
  intro ak
  refine join_ (σ := Nat × Addr × Nat × Option Addr × Nat) 4 (m25 9437183) (fun s_ => [(9, .int .i64 n1), (12, .int .i64 n2), (15, .int .i64 n3), (17, .int .i64 n4), (18, .slice (some s_.2.1) fl.length s_.2.2.1), (20, .int .i64 n5), (22, .int .i64 (rd fl n5)), (24, .int .i64 n6), (5, .pointer (some ⟨s_.1, 0, none⟩)), (10, .int .i64 (wrap64 (1000 + n1))), (13, .int .i64 (wrap64 (50 + n2))), (21, .pointer (some (s_.2.1.add (n5).toNat)))]) (fun s_ w' => (spec_l11Draw.St w0 w g c g4 p6 t6 w') ∧ (spec_l11Draw.Bx w0 w g g4 s_.1 w')) ?_ ?_
  rotate_left
  intro ag
  refine join_ (σ := Nat × Addr × Nat × Option Addr × Nat) 4 (m25 2097151) (fun s_ => [(9, .int .i64 n1), (12, .int .i64 n2), (15, .int .i64 n3), (17, .int .i64 n4), (18, .slice (some s_.2.1) fl.length s_.2.2.1), (20, .int .i64 n5), (22, .int .i64 (rd fl n5)), (24, .int .i64 n6), (28, .int .i64 n7), (10, .int .i64 (wrap64 (1000 + n1))), (13, .int .i64 (wrap64 (50 + n2))), (21, .pointer (some (s_.2.1.add (n5).toNat)))]) (fun s_ w' => (spec_l11Draw.St w0 w g c g4 p7 t7 w')) ?_ ?_
  rotate_left
  intro al
  refine join_ (σ := Nat × Addr × Nat × Option Addr × Nat) 6 (m25 10460159) (fun s_ => [(9, .int .i64 n1), (12, .int .i64 n2), (15, .int .i64 n3), (17, .int .i64 n4), (20, .int .i64 n5), (24, .int .i64 n6), (28, .int .i64 n7), (5, .pointer (some ⟨s_.1, 0, none⟩)), (10, .int .i64 (wrap64 (1000 + n1))), (13, .int .i64 (wrap64 (50 + n2)))]) (fun s_ w' => (spec_l11Draw.St w0 w g c g4 p7 t7 w') ∧ (spec_l11Draw.Bx w0 w g g4 s_.1 w')) ?_ ?_
  rotate_left
  intro an
  refine join_ (σ := Nat × Addr × Nat × Option Addr × Nat) 6 (m25 4168703) (fun s_ => [(9, .int .i64 n1), (12, .int .i64 n2), (15, .int .i64 n3), (17, .int .i64 n4), (20, .int .i64 n5), (24, .int .i64 n6), (28, .int .i64 n7), (29, .slice s_.2.2.2.1 dl.length s_.2.2.2.2), (10, .int .i64 (wrap64 (1000 + n1))), (13, .int .i64 (wrap64 (50 + n2)))]) (fun s_ w' => (spec_l11Draw.St w0 w g c g4 p8 t8 w') ∧ (Kd.R (Kd.int .u8) 5 w' w.heap.size (fun _ => True) (.slice s_.2.2.2.1 dl.length s_.2.2.2.2) dl)) ?_ ?_
  rotate_left
  intro aC
  refine join_ (σ := Nat × Addr × Nat × Option Addr × Nat) 5 (m25 9420799) (fun s_ => [(9, .int .i64 n1), (12, .int .i64 n2), (15, .int .i64 n3), (17, .int .i64 n4), (18, .slice (some s_.2.1) fl.length s_.2.2.1), (20, .int .i64 n5), (24, .int .i64 n6), (5, .pointer (some ⟨s_.1, 0, none⟩)), (10, .int .i64 (wrap64 (1000 + n1))), (13, .int .i64 (wrap64 (50 + n2))), (21, .pointer (some (s_.2.1.add (n5).toNat)))]) (fun s_ w' => (spec_l11Draw.St w0 w g c g4 p6 t6 w') ∧ (spec_l11Draw.Bx w0 w g g4 s_.1 w') ∧ (Kd.R (Kd.int .i64) 2 w' w.heap.size (fun _ => True) (.slice (some s_.2.1) fl.length s_.2.2.1) fl)) ?_ ?_
  rotate_left
  intro ah
  refine join_ (σ := Nat × Addr × Nat × Option Addr × Nat) 5 (m25 2080767) (fun s_ => [(9, .int .i64 n1), (12, .int .i64 n2), (15, .int .i64 n3), (17, .int .i64 n4), (18, .slice (some s_.2.1) fl.length s_.2.2.1), (20, .int .i64 n5), (24, .int .i64 n6), (28, .int .i64 n7), (10, .int .i64 (wrap64 (1000 + n1))), (13, .int .i64 (wrap64 (50 + n2))), (21, .pointer (some (s_.2.1.add (n5).toNat)))]) (fun s_ w' => (spec_l11Draw.St w0 w g c g4 p7 t7 w') ∧ (Kd.R (Kd.int .i64) 2 w' w.heap.size (fun _ => True) (.slice (some s_.2.1) fl.length s_.2.2.1) fl)) ?_ ?_
  rotate_left
  intro ao
  refine join_ (σ := Nat × Addr × Nat × Option Addr × Nat) 5 (m25 9371647) (fun s_ => [(9, .int .i64 n1), (12, .int .i64 n2), (15, .int .i64 n3), (17, .int .i64 n4), (18, .slice (some s_.2.1) fl.length s_.2.2.1), (20, .int .i64 n5), (22, .int .i64 (rd fl n5)), (5, .pointer (some ⟨s_.1, 0, none⟩)), (10, .int .i64 (wrap64 (1000 + n1))), (13, .int .i64 (wrap64 (50 + n2))), (21, .pointer (some (s_.2.1.add (n5).toNat)))]) (fun s_ w' => (spec_l11Draw.St w0 w g c g4 p5 t5 w') ∧ (spec_l11Draw.Bx w0 w g g4 s_.1 w')) ?_ ?_
  rotate_left
  intro ap
  refine join_ (σ := Nat × Addr × Nat × Option Addr × Nat) 5 (m25 1048575) (fun s_ => [(9, .int .i64 n1), (12, .int .i64 n2), (15, .int .i64 n3), (17, .int .i64 n4), (18, .slice (some s_.2.1) fl.length s_.2.2.1), (20, .int .i64 n5), (22, .int .i64 (rd fl n5)), (24, .int .i64 n6), (10, .int .i64 (wrap64 (1000 + n1))), (13, .int .i64 (wrap64 (50 + n2))), (21, .pointer (some (s_.2.1.add (n5).toNat)))]) (fun s_ w' => (spec_l11Draw.St w0 w g c g4 p6 t6 w')) ?_ ?_
  rotate_left
  intro ar
  refine join_ (σ := Nat × Addr × Nat × Option Addr × Nat) 7 (m25 9411583) (fun s_ => [(9, .int .i64 n1), (12, .int .i64 n2), (15, .int .i64 n3), (17, .int .i64 n4), (20, .int .i64 n5), (24, .int .i64 n6), (5, .pointer (some ⟨s_.1, 0, none⟩)), (10, .int .i64 (wrap64 (1000 + n1))), (13, .int .i64 (wrap64 (50 + n2)))]) (fun s_ w' => (spec_l11Draw.St w0 w g c g4 p6 t6 w') ∧ (spec_l11Draw.Bx w0 w g g4 s_.1 w')) ?_ ?_
  rotate_left
  intro av
  refine join_ (σ := Nat × Addr × Nat × Option Addr × Nat) 7 (m25 2071551) (fun s_ => [(9, .int .i64 n1), (12, .int .i64 n2), (15, .int .i64 n3), (17, .int .i64 n4), (20, .int .i64 n5), (24, .int .i64 n6), (28, .int .i64 n7), (10, .int .i64 (wrap64 (1000 + n1))), (13, .int .i64 (wrap64 (50 + n2)))]) (fun s_ w' => (spec_l11Draw.St w0 w g c g4 p7 t7 w')) ?_ ?_
  rotate_left
  intro aD
  refine join_ (σ := Nat × Addr × Nat × Option Addr × Nat) 6 (m25 9355263) (fun s_ => [(9, .int .i64 n1), (12, .int .i64 n2), (15, .int .i64 n3), (17, .int .i64 n4), (18, .slice (some s_.2.1) fl.length s_.2.2.1), (20, .int .i64 n5), (5, .pointer (some ⟨s_.1, 0, none⟩)), (10, .int .i64 (wrap64 (1000 + n1))), (13, .int .i64 (wrap64 (50 + n2))), (21, .pointer (some (s_.2.1.add (n5).toNat)))]) (fun s_ w' => (spec_l11Draw.St w0 w g c g4 p5 t5 w') ∧ (spec_l11Draw.Bx w0 w g g4 s_.1 w') ∧ (Kd.R (Kd.int .i64) 2 w' w.heap.size (fun _ => True) (.slice (some s_.2.1) fl.length s_.2.2.1) fl)) ?_ ?_
  rotate_left
  intro am
  refine join_ (σ := Nat × Addr × Nat × Option Addr × Nat) 6 (m25 1032191) (fun s_ => [(9, .int .i64 n1), (12, .int .i64 n2), (15, .int .i64 n3), (17, .int .i64 n4), (18, .slice (some s_.2.1) fl.length s_.2.2.1), (20, .int .i64 n5), (24, .int .i64 n6), (10, .int .i64 (wrap64 (1000 + n1))), (13, .int .i64 (wrap64 (50 + n2))), (21, .pointer (some (s_.2.1.add (n5).toNat)))]) (fun s_ w' => (spec_l11Draw.St w0 w g c g4 p6 t6 w') ∧ (Kd.R (Kd.int .i64) 2 w' w.heap.size (fun _ => True) (.slice (some s_.2.1) fl.length s_.2.2.1) fl)) ?_ ?_
  rotate_left
  intro aw
  refine join_ (σ := Nat × Addr × Nat × Option Addr × Nat) 6 (m25 983039) (fun s_ => [(9, .int .i64 n1), (12, .int .i64 n2), (15, .int .i64 n3), (17, .int .i64 n4), (18, .slice (some s_.2.1) fl.length s_.2.2.1), (20, .int .i64 n5), (22, .int .i64 (rd fl n5)), (10, .int .i64 (wrap64 (1000 + n1))), (13, .int .i64 (wrap64 (50 + n2))), (21, .pointer (some (s_.2.1.add (n5).toNat)))]) (fun s_ w' => (spec_l11Draw.St w0 w g c g4 p5 t5 w')) ?_ ?_
  rotate_left
  intro aE
  refine join_ (σ := Nat × Addr × Nat × Option Addr × Nat) 8 (m25 9346047) (fun s_ => [(9, .int .i64 n1), (12, .int .i64 n2), (15, .int .i64 n3), (17, .int .i64 n4), (20, .int .i64 n5), (5, .pointer (some ⟨s_.1, 0, none⟩)), (10, .int .i64 (wrap64 (1000 + n1))), (13, .int .i64 (wrap64 (50 + n2)))]) (fun s_ w' => (spec_l11Draw.St w0 w g c g4 p5 t5 w') ∧ (spec_l11Draw.Bx w0 w g g4 s_.1 w')) ?_ ?_
  rotate_left
  intro az
  refine join_ (σ := Nat × Addr × Nat × Option Addr × Nat) 8 (m25 1022975) (fun s_ => [(9, .int .i64 n1), (12, .int .i64 n2), (15, .int .i64 n3), (17, .int .i64 n4), (20, .int .i64 n5), (24, .int .i64 n6), (10, .int .i64 (wrap64 (1000 + n1))), (13, .int .i64 (wrap64 (50 + n2)))]) (fun s_ w' => (spec_l11Draw.St w0 w g c g4 p6 t6 w')) ?_ ?_
  rotate_left
  intro aJ
  refine join_ (σ := Nat × Addr × Nat × Option Addr × Nat) 8 (m25 9342975) (fun s_ => [(9, .int .i64 n1), (12, .int .i64 n2), (15, .int .i64 n3), (17, .int .i64 n4), (18, .slice (some s_.2.1) fl.length s_.2.2.1), (5, .pointer (some ⟨s_.1, 0, none⟩)), (10, .int .i64 (wrap64 (1000 + n1))), (13, .int .i64 (wrap64 (50 + n2)))]) (fun s_ w' => (spec_l11Draw.St w0 w g c g4 p4 t4 w') ∧ (spec_l11Draw.Bx w0 w g g4 s_.1 w') ∧ (Kd.R (Kd.int .i64) 2 w' w.heap.size (fun _ => True) (.slice (some s_.2.1) fl.length s_.2.2.1) fl)) ?_ ?_
  rotate_left
  intro au
  refine join_ (σ := Nat × Addr × Nat × Option Addr × Nat) 7 (m25 966655) (fun s_ => [(9, .int .i64 n1), (12, .int .i64 n2), (15, .int .i64 n3), (17, .int .i64 n4), (18, .slice (some s_.2.1) fl.length s_.2.2.1), (20, .int .i64 n5), (10, .int .i64 (wrap64 (1000 + n1))), (13, .int .i64 (wrap64 (50 + n2))), (21, .pointer (some (s_.2.1.add (n5).toNat)))]) (fun s_ w' => (spec_l11Draw.St w0 w g c g4 p5 t5 w') ∧ (Kd.R (Kd.int .i64) 2 w' w.heap.size (fun _ => True) (.slice (some s_.2.1) fl.length s_.2.2.1) fl)) ?_ ?_
  rotate_left
  intro aA
  refine join_ (σ := Nat × Addr × Nat × Option Addr × Nat) 9 (m25 9342463) (fun s_ => [(9, .int .i64 n1), (12, .int .i64 n2), (15, .int .i64 n3), (18, .slice (some s_.2.1) fl.length s_.2.2.1), (5, .pointer (some ⟨s_.1, 0, none⟩)), (10, .int .i64 (wrap64 (1000 + n1))), (13, .int .i64 (wrap64 (50 + n2)))]) (fun s_ w' => (spec_l11Draw.St w0 w g c g4 p3 t3 w') ∧ (spec_l11Draw.Bx w0 w g g4 s_.1 w') ∧ (Kd.R (Kd.int .i64) 2 w' w.heap.size (fun _ => True) (.slice (some s_.2.1) fl.length s_.2.2.1) fl)) ?_ ?_
  rotate_left
  intro ay
  refine join_ (σ := Nat × Addr × Nat × Option Addr × Nat) 9 (m25 9341951) (fun s_ => [(9, .int .i64 n1), (12, .int .i64 n2), (15, .int .i64 n3), (17, .int .i64 n4), (5, .pointer (some ⟨s_.1, 0, none⟩)), (10, .int .i64 (wrap64 (1000 + n1))), (13, .int .i64 (wrap64 (50 + n2)))]) (fun s_ w' => (spec_l11Draw.St w0 w g c g4 p4 t4 w') ∧ (spec_l11Draw.Bx w0 w g g4 s_.1 w')) ?_ ?_
  rotate_left
  intro aG
  refine join_ (σ := Nat × Addr × Nat × Option Addr × Nat) 9 (m25 957439) (fun s_ => [(9, .int .i64 n1), (12, .int .i64 n2), (15, .int .i64 n3), (17, .int .i64 n4), (20, .int .i64 n5), (10, .int .i64 (wrap64 (1000 + n1))), (13, .int .i64 (wrap64 (50 + n2)))]) (fun s_ w' => (spec_l11Draw.St w0 w g c g4 p5 t5 w')) ?_ ?_
  rotate_left
  intro aN
  refine join_ (σ := Nat × Addr × Nat × Option Addr × Nat) 9 (m25 954367) (fun s_ => [(9, .int .i64 n1), (12, .int .i64 n2), (15, .int .i64 n3), (17, .int .i64 n4), (18, .slice (some s_.2.1) fl.length s_.2.2.1), (10, .int .i64 (wrap64 (1000 + n1))), (13, .int .i64 (wrap64 (50 + n2)))]) (fun s_ w' => (spec_l11Draw.St w0 w g c g4 p4 t4 w') ∧ (Kd.R (Kd.int .i64) 2 w' w.heap.size (fun _ => True) (.slice (some s_.2.1) fl.length s_.2.2.1) fl)) ?_ ?_
  rotate_left
  intro aH
  refine join_ (σ := Nat × Addr × Nat × Option Addr × Nat) 10 (m25 9342335) (fun s_ => [(9, .int .i64 n1), (12, .int .i64 n2), (18, .slice (some s_.2.1) fl.length s_.2.2.1), (5, .pointer (some ⟨s_.1, 0, none⟩)), (10, .int .i64 (wrap64 (1000 + n1))), (13, .int .i64 (wrap64 (50 + n2)))]) (fun s_ w' => (spec_l11Draw.St w0 w g c g4 p2 t2 w') ∧ (spec_l11Draw.Bx w0 w g g4 s_.1 w') ∧ (Kd.R (Kd.int .i64) 2 w' w.heap.size (fun _ => True) (.slice (some s_.2.1) fl.length s_.2.2.1) fl)) ?_ ?_
  rotate_left
  intro aB
  refine join_ (σ := Nat × Addr × Nat × Option Addr × Nat) 10 (m25 9341439) (fun s_ => [(9, .int .i64 n1), (12, .int .i64 n2), (15, .int .i64 n3), (5, .pointer (some ⟨s_.1, 0, none⟩)), (10, .int .i64 (wrap64 (1000 + n1))), (13, .int .i64 (wrap64 (50 + n2)))]) (fun s_ w' => (spec_l11Draw.St w0 w g c g4 p3 t3 w') ∧ (spec_l11Draw.Bx w0 w g g4 s_.1 w')) ?_ ?_
  rotate_left
  intro aK
  refine join_ (σ := Nat × Addr × Nat × Option Addr × Nat) 10 (m25 953855) (fun s_ => [(9, .int .i64 n1), (12, .int .i64 n2), (15, .int .i64 n3), (18, .slice (some s_.2.1) fl.length s_.2.2.1), (10, .int .i64 (wrap64 (1000 + n1))), (13, .int .i64 (wrap64 (50 + n2)))]) (fun s_ w' => (spec_l11Draw.St w0 w g c g4 p3 t3 w') ∧ (Kd.R (Kd.int .i64) 2 w' w.heap.size (fun _ => True) (.slice (some s_.2.1) fl.length s_.2.2.1) fl)) ?_ ?_
  rotate_left
  intro aM
  refine join_ (σ := Nat × Addr × Nat × Option Addr × Nat) 10 (m25 953343) (fun s_ => [(9, .int .i64 n1), (12, .int .i64 n2), (15, .int .i64 n3), (17, .int .i64 n4), (10, .int .i64 (wrap64 (1000 + n1))), (13, .int .i64 (wrap64 (50 + n2)))]) (fun s_ w' => (spec_l11Draw.St w0 w g c g4 p4 t4 w')) ?_ ?_
  rotate_left
  intro aY
  refine join_ (σ := Nat × Addr × Nat × Option Addr × Nat) 12 (m25 9342287) (fun s_ => [(9, .int .i64 n1), (18, .slice (some s_.2.1) fl.length s_.2.2.1), (5, .pointer (some ⟨s_.1, 0, none⟩)), (10, .int .i64 (wrap64 (1000 + n1)))]) (fun s_ w' => (spec_l11Draw.St w0 w g c g4 p1 t1 w') ∧ (spec_l11Draw.Bx w0 w g g4 s_.1 w') ∧ (Kd.R (Kd.int .i64) 2 w' w.heap.size (fun _ => True) (.slice (some s_.2.1) fl.length s_.2.2.1) fl)) ?_ ?_
  rotate_left
  intro aI
  refine join_ (σ := Nat × Addr × Nat × Option Addr × Nat) 11 (m25 9341311) (fun s_ => [(9, .int .i64 n1), (12, .int .i64 n2), (5, .pointer (some ⟨s_.1, 0, none⟩)), (10, .int .i64 (wrap64 (1000 + n1))), (13, .int .i64 (wrap64 (50 + n2)))]) (fun s_ w' => (spec_l11Draw.St w0 w g c g4 p2 t2 w') ∧ (spec_l11Draw.Bx w0 w g g4 s_.1 w')) ?_ ?_
  rotate_left
  intro aQ
  refine join_ (σ := Nat × Addr × Nat × Option Addr × Nat) 11 (m25 953727) (fun s_ => [(9, .int .i64 n1), (12, .int .i64 n2), (18, .slice (some s_.2.1) fl.length s_.2.2.1), (10, .int .i64 (wrap64 (1000 + n1))), (13, .int .i64 (wrap64 (50 + n2)))]) (fun s_ w' => (spec_l11Draw.St w0 w g c g4 p2 t2 w') ∧ (Kd.R (Kd.int .i64) 2 w' w.heap.size (fun _ => True) (.slice (some s_.2.1) fl.length s_.2.2.1) fl)) ?_ ?_
  rotate_left
  intro aR
  refine join_ (σ := Nat × Addr × Nat × Option Addr × Nat) 11 (m25 952831) (fun s_ => [(9, .int .i64 n1), (12, .int .i64 n2), (15, .int .i64 n3), (10, .int .i64 (wrap64 (1000 + n1))), (13, .int .i64 (wrap64 (50 + n2)))]) (fun s_ w' => (spec_l11Draw.St w0 w g c g4 p3 t3 w')) ?_ ?_
  rotate_left
  intro a1
  refine join_ (σ := Nat × Addr × Nat × Option Addr × Nat) 14 (m25 9342281) (fun s_ => [(18, .slice (some s_.2.1) fl.length s_.2.2.1), (5, .pointer (some ⟨s_.1, 0, none⟩))]) (fun s_ w' => (spec_l11Draw.St w0 w g c g4 p t w') ∧ (spec_l11Draw.Bx w0 w g g4 s_.1 w') ∧ (Kd.R (Kd.int .i64) 2 w' w.heap.size (fun _ => True) (.slice (some s_.2.1) fl.length s_.2.2.1) fl)) ?_ ?_
  rotate_left
  intro aX
  refine join_ (σ := Nat × Addr × Nat × Option Addr × Nat) 13 (m25 9341263) (fun s_ => [(9, .int .i64 n1), (5, .pointer (some ⟨s_.1, 0, none⟩)), (10, .int .i64 (wrap64 (1000 + n1)))]) (fun s_ w' => (spec_l11Draw.St w0 w g c g4 p1 t1 w') ∧ (spec_l11Draw.Bx w0 w g g4 s_.1 w')) ?_ ?_
  rotate_left
  intro aZ
  refine join_ (σ := Nat × Addr × Nat × Option Addr × Nat) 13 (m25 953679) (fun s_ => [(9, .int .i64 n1), (18, .slice (some s_.2.1) fl.length s_.2.2.1), (10, .int .i64 (wrap64 (1000 + n1)))]) (fun s_ w' => (spec_l11Draw.St w0 w g c g4 p1 t1 w') ∧ (Kd.R (Kd.int .i64) 2 w' w.heap.size (fun _ => True) (.slice (some s_.2.1) fl.length s_.2.2.1) fl)) ?_ ?_
  rotate_left
  intro a0
  refine join_ (σ := Nat × Addr × Nat × Option Addr × Nat) 12 (m25 952703) (fun s_ => [(9, .int .i64 n1), (12, .int .i64 n2), (10, .int .i64 (wrap64 (1000 + n1))), (13, .int .i64 (wrap64 (50 + n2)))]) (fun s_ w' => (spec_l11Draw.St w0 w g c g4 p2 t2 w')) ?_ ?_
  rotate_left
  intro a2
  refine join_ (σ := Nat × Addr × Nat × Option Addr × Nat) 15 (m25 9341257) (fun s_ => [(5, .pointer (some ⟨s_.1, 0, none⟩))]) (fun s_ w' => (spec_l11Draw.St w0 w g c g4 p t w') ∧ (spec_l11Draw.Bx w0 w g g4 s_.1 w')) ?_ ?_
  rotate_left
  intro a5
  refine join_ (σ := Nat × Addr × Nat × Option Addr × Nat) 15 (m25 953673) (fun s_ => [(18, .slice (some s_.2.1) fl.length s_.2.2.1)]) (fun s_ w' => (spec_l11Draw.St w0 w g c g4 p t w') ∧ (Kd.R (Kd.int .i64) 2 w' w.heap.size (fun _ => True) (.slice (some s_.2.1) fl.length s_.2.2.1) fl)) ?_ ?_
  rotate_left
  intro a6
  refine join_ (σ := Nat × Addr × Nat × Option Addr × Nat) 14 (m25 952655) (fun s_ => [(9, .int .i64 n1), (10, .int .i64 (wrap64 (1000 + n1)))]) (fun s_ w' => (spec_l11Draw.St w0 w g c g4 p1 t1 w')) ?_ ?_
  rotate_left
  intro a7
  refine three_ (i := 1) (j := 10) (k := 23) (Ni := some 9) (Nj := some 18) (Nk := some 5) (m25 952651) (m25 953673) (m25 9341257) rfl rfl rfl rfl rfl rfl (three_of HT_.out (by kernel_rfl)) (by decide) (by decide) (by decide) (fun K hK => ?_) (fun K hK => ?_) (fun K hK => ?_)
  · skip
    refine goes_ Try.func40 (by kernel_rfl) rfl #[.pointer (some ⟨g, 0, none⟩), .int .i64 2] (by rfl) rfl rfl wT ?_
    with_reducible refine (spec_l01Next.calls g c p t 2 n1 p1 t1 w0 _ S.i S.b E1.out).mono ?_
    rintro e dd ⟨rfl, hi, hb, hk⟩
    refine ⟨_, rfl, ?_⟩
    refine hK.out _ _ trivial (fun _ => ?_)
    clear hK K
    refine norm_ (a' := ?_) ?_ ?_
    rotate_left
    {
      show Act.put _ (some 9) _ = _
      simp only [Act.put, List.setIfInBounds_toArray, List.set_cons_zero, List.set_cons_succ, i64_w, i32_w]
      rfl
    }
    refine pure_ (i := 2) (N := some 10) (v := ?_) (a' := ?_) (m25 952655) rfl rfl (any_of HT_.out (by kernel_rfl)) (fun _ _ _ h => h) (Or.inl ⟨by rfl, ?_⟩) ?_ ?_
    rotate_left
    {
      intro w'
      go_simp
      with_reducible rfl
    }
    rotate_left
    {
      simp only [Act.put, List.setIfInBounds_toArray, List.set_cons_zero, List.set_cons_succ, i64_w, i32_w]
      rfl
    }
    exact nrm_ (a7 (0, ⟨0, 0, none⟩, 0, none, 0) _ (S.call N4.out hi hb hk))
  · skip
    refine Kd.R_lit_step (Kd.int .i64) _ 2 ?hg (N := 18) ?hd (xs := ([2, 18, 16, 24, 17, 4, 20, 0] : List Int)) (inner := [.int .i64 2, .int .i64 18, .int .i64 16, .int .i64 24, .int .i64 17, .int .i64 4, .int .i64 20, .int .i64 0]) (ok := fun _ => True) (okp := fun _ => True) ?hr (spec_l11Draw.lit _ _ _) (fun _ hk => hk) trivial (Below.refl _ _) (Nat.le_refl _) (by simp) ?_; (case hd => rfl); (case hg => rfl); (case hr => first | (go_simp; done) | (go_simp; rfl))
    intro ax de ho hb _ _
    rw [← HFL.out] at ho
    replace ho := Kd.R_lower ho (keep_size S.2.2.1)
    obtain ⟨Al, ab, el⟩ := Kd.R_slice ho
    subst el
    obtain ⟨aa, fo, _⟩ := Kd.at_int (Kd.R_reads' ho).2.2 0 (by decide) (by rw [HFN.out]; decide)
    subst fo
    refine hK.out _ _ trivial (fun _ => ?_)
    clear hK K
    refine norm_ (a' := ?_) ?_ ?_
    rotate_left
    {
      show Act.put _ (some 18) _ = _
      simp only [Act.put, List.setIfInBounds_toArray, List.set_cons_zero, List.set_cons_succ, i64_w, i32_w]
      rfl
    }
    exact nrm_ (a6 (0, aa, ab, none, 0) _ ⟨(S.made hb), ho⟩)
  · skip
    refine box_step ?hg (N := 5) ?hd (cs := #[.int .i64 0, .int .i64 0, .int .i64 0, .int .i64 0, .int .i64 0, .int .i64 0, .int .i64 0, .bool false, .int .i64 0, .bool false, .slice none 0 0, .slice none 0 0]) (t := 25) ?hr ?_; (case hd => rfl); (case hg => rfl); (case hr => first | (go_simp; done) | (go_simp; rfl))
    intro g5 hg df hbox hb
    have hg_ := Aside0.mk hg
    clear hg
    refine hK.out _ _ trivial (fun _ => ?_)
    clear hK K
    refine norm_ (a' := ?_) ?_ ?_
    rotate_left
    {
      show Act.put _ (some 5) _ = _
      simp only [Act.put, List.setIfInBounds_toArray, List.set_cons_zero, List.set_cons_succ, i64_w, i32_w]
      rfl
    }
    exact nrm_ (a5 (g5, ⟨0, 0, none⟩, 0, none, 0) _ ⟨(S.made hb), (spec_l11Draw.Bx_new S HW0.out hg_.out hbox)⟩)
  · clear S
    rintro ⟨g5, aa, ab, Ad, cd⟩ a3 ⟨S, X, D⟩
    refine norm_ (a' := ?_) ?_ ?_
    rotate_left
    {
      simp only [putAll, Act.put, List.setIfInBounds_toArray, List.set_cons_zero, List.set_cons_succ]
      rfl
    }
    refine one_ (i := 24) (N := none) (m25 33554431) rfl rfl (one_of HT_.out (by kernel_rfl)) (by decide) (fun K hK => ?_)
    have HI := Aside0.mk S.1
    have HB := Aside0.mk S.2.1
    have HK := Aside0.mk S.2.2.1
    have K4 := Aside0.mk S.2.2.2
    have K5 := Aside0.mk (show Z25 _ g5 from X.1)
    have G5 := Aside0.mk (show w.heap.size ≤ g5 from X.2.1)
    have X5 := Aside0.mk (show w0.heap.size ≤ g5 from X.2.2.1)
    have N5 := Aside0.mk (show g5 ≠ g from X.2.2.2.1)
    have N45 := Aside0.mk (show g4 ≠ g5 from X.2.2.2.2)
    have D_ := Aside0.mk D
    clear S X D
    have D := D_
    clear D_
    obtain ⟨⟨hczs_0, hczs_1, hczs_2, hczs_3, hczs_4, hczs_5, hczs_6, hczs_7, hczs_8, hczs_9, hczs_10, hczs_11⟩, hfzs_0, hfzs_1, hfzs_2, hfzs_3, hfzs_4, hfzs_5, hfzs_6, hfzs_7, hfzs_8, hfzs_9, hfzs_10, hfzs_11⟩ := cells12 K5.out
    refine skip_ (w1 := put12 a3 g5 (.int .i64 (wrap64 (1000 + n1))) (.int .i64 (wrap64 (50 + n2))) (.int .i64 n3) (.int .i64 n4) (.int .i64 (rd fl n5)) (.int .i64 n6) (.int .i64 0) (.bool false) (.int .i64 0) (.bool false) (.slice none 0 0) (.slice Ad dl.length cd)) (by rfl) rfl ?_ ?_
    {
      first | (go_simp; done) | (go_simp; rfl)
    }
    generalize hu_ : put12 a3 g5 (.int .i64 (wrap64 (1000 + n1))) (.int .i64 (wrap64 (50 + n2))) (.int .i64 n3) (.int .i64 n4) (.int .i64 (rd fl n5)) (.int .i64 n6) (.int .i64 0) (.bool false) (.int .i64 0) (.bool false) (.slice none 0 0) (.slice Ad dl.length cd) = w1
    replace D : Aside0 (Kd.R (Kd.int .u8) 5 w1 w.heap.size (fun _ => True) (.slice Ad dl.length cd) dl) := ⟨by rw [← hu_]; exact Kd.R_mono (Kd.R_step (Kd.R_types D.out K5.out (by decide)) (fun _ hk _ => far12 hk.2)) (fun _ hk => hk.1)⟩
    replace K4 : Aside0 (w1.heap[g4]? = some (.cells #[.int .i64 0, .int .i64 0, .int .i64 0, .int .i64 0, .int .i64 0, .int .i64 0, .int .i64 0, .bool false, .int .i64 0, .bool false, .slice none 0 0, .slice none 0 0] 25 (0, 0))) := ⟨by rw [← hu_]; exact (far12 N45.out).trans K4.out⟩
    replace HI : Aside0 (IsS64 w0 w1 g c p8 t8) := ⟨by rw [← hu_]; refine IsS64.far ?_ N5.out.symm _; refine IsS64.far ?_ N5.out.symm _; refine IsS64.far ?_ N5.out.symm _; refine IsS64.far ?_ N5.out.symm _; refine IsS64.far ?_ N5.out.symm _; refine IsS64.far ?_ N5.out.symm _; refine IsS64.far ?_ N5.out.symm _; refine IsS64.far ?_ N5.out.symm _; refine IsS64.far ?_ N5.out.symm _; refine IsS64.far ?_ N5.out.symm _; refine IsS64.far ?_ N5.out.symm _; refine IsS64.far ?_ N5.out.symm _; exact HI.out⟩
    replace HK : Aside0 (KeepBut w w1 g none) := ⟨by rw [← hu_]; refine keep_far ?_ G5.out _; refine keep_far ?_ G5.out _; refine keep_far ?_ G5.out _; refine keep_far ?_ G5.out _; refine keep_far ?_ G5.out _; refine keep_far ?_ G5.out _; refine keep_far ?_ G5.out _; refine keep_far ?_ G5.out _; refine keep_far ?_ G5.out _; refine keep_far ?_ G5.out _; refine keep_far ?_ G5.out _; refine keep_far ?_ G5.out _; exact HK.out⟩
    replace HB : Aside0 (Below w0.heap.size w0 w1) := ⟨by rw [← hu_]; refine below_set ?_ X5.out; refine below_set ?_ X5.out; refine below_set ?_ X5.out; refine below_set ?_ X5.out; refine below_set ?_ X5.out; refine below_set ?_ X5.out; refine below_set ?_ X5.out; refine below_set ?_ X5.out; refine below_set ?_ X5.out; refine below_set ?_ X5.out; refine below_set ?_ X5.out; refine below_set ?_ X5.out; exact HB.out⟩
    replace K5 : Aside0 (w1.heap[g5]? = some (.cells #[.int .i64 (wrap64 (1000 + n1)), .int .i64 (wrap64 (50 + n2)), .int .i64 n3, .int .i64 n4, .int .i64 (rd fl n5), .int .i64 n6, .int .i64 0, .bool false, .int .i64 0, .bool false, .slice none 0 0, .slice Ad dl.length cd] 25 (0, 0))) := ⟨by rw [← hu_]; exact set12 K5.out⟩
    clear hu_
    clear hczs_0 hfzs_0 hczs_1 hfzs_1 hczs_2 hfzs_2 hczs_3 hfzs_3 hczs_4 hfzs_4 hczs_5 hfzs_5 hczs_6 hfzs_6 hczs_7 hfzs_7 hczs_8 hfzs_8 hczs_9 hfzs_9 hczs_10 hfzs_10 hczs_11 hfzs_11
    refine hK.out _ _ trivial (fun _ => ?_)
    clear hK K
    refine done_ (done_of HT_.out (by kernel_rfl)) ?_
    clear HT_ HW_ h5a h5b
    obtain ⟨x0, hx0⟩ : ∃ x_ : Int, x_ = wrap64 (1000 + n1) := ⟨_, rfl⟩
    obtain ⟨x1, hx1⟩ : ∃ x_ : Int, x_ = wrap64 (50 + n2) := ⟨_, rfl⟩
    obtain ⟨x4, hx4⟩ : ∃ x_ : Int, x_ = rd fl n5 := ⟨_, rfl⟩
    rw [← hx0, ← hx1, ← hx4] at K5 HJ
    clear hx0 hx1 hx4
    have H := HJ.out
    clear HJ
    unfold spec_l11Draw.j0 at H
    replace H := Option.bind_eq_some_iff.mp H
    obtain ⟨⟨m, pm_, tm_⟩, A, H⟩ := H
    dsimp only at A H
    have EA := Aside0.mk A
    clear A
    have HJ := Aside0.mk H
    clear H
    go_upto_if 33 with (first | ((with_reducible refine gate_callee (f := 40) rfl ?_); refine goesL_ (some 32) rfl rfl Try.func40 (by kernel_rfl) rfl #[.pointer (some ⟨g, 0, none⟩), .int .i64 12] rfl wT ?_; (with_reducible refine (spec_l01Next.calls g c p8 t8 12 m pm_ tm_ w0 _ ?side1 ?side2 EA.out).mono ?_); (case side1 => exact HI.out); (case side2 => exact HB.out); rintro e wa ⟨rfl, hi, hb, hk⟩; refine ⟨_, rfl, ?_⟩; replace K4 := Aside0.mk (KeepBut.blk hk K4.out N4.out (by simp)); replace K5 := Aside0.mk (KeepBut.blk hk K5.out N5.out (by simp)); replace D := Aside0.mk (Kd.R_mono (Kd.R_keep (IsS64.apart HI.out D.out (by decide)) hk (fun _ h_ => h_.2)) (fun _ h_ => h_.1)); replace HK := Aside0.mk (KeepBut.trans HK.out hk (.inl rfl)); replace HB := Aside0.mk hb; replace HI := Aside0.mk hi; clear hi hb hk; skip))
    (try simp only [Act.put, List.setIfInBounds_toArray, List.set_cons_zero, List.set_cons_succ])
    go_cut [] (fun wc => ∃ (y4 : Int) (p_ t_ : Int), Aside0 (spec_l11Draw.j1 k x0 x1 n3 n4 y4 n6 0 false 0 false c p_ t_ dl = some (r0, r1, r2, r3, r4, r5, r6, r7, r8, r9, aT, aU, aV, aW)) ∧ Aside0 (IsS64 w0 wc g c p_ t_) ∧ Aside0 (Below w0.heap.size w0 wc) ∧ Aside0 (KeepBut w wc g none) ∧ Aside0 (wc.heap[g4]? = some (.cells #[.int .i64 0, .int .i64 0, .int .i64 0, .int .i64 0, .int .i64 0, .int .i64 0, .int .i64 0, .bool false, .int .i64 0, .bool false, .slice none 0 0, .slice none 0 0] 25 (0, 0))) ∧ Aside0 (wc.heap[g5]? = some (.cells #[.int .i64 x0, .int .i64 x1, .int .i64 n3, .int .i64 n4, .int .i64 y4, .int .i64 n6, .int .i64 0, .bool false, .int .i64 0, .bool false, .slice none 0 0, .slice Ad dl.length cd] 25 (0, 0))) ∧ Aside0 (Kd.R (Kd.int .u8) 5 wc w.heap.size (fun _ => True) (.slice Ad dl.length cd) dl))
    case first =>
      have H := HJ.out
      clear HJ
      by_cases b1 : m = 0
      · rw [if_pos b1] at H
        have b1b : ((m) == 0) = true := beq_iff_eq.mpr b1
        have b1c : ((m) != 0) = false := bne_eq_false_iff_eq.mpr b1
        clear b1
        replace H := Option.bind_eq_some_iff.mp H
        obtain ⟨⟨m2, q_, s_⟩, A, H⟩ := H
        dsimp only at A H
        have EB := Aside0.mk A
        clear A
        have HJ := Aside0.mk H
        clear H
        go_wp2_with (first | ((with_reducible refine gate_callee (f := 40) rfl ?_); refine goesL_ (some 35) rfl rfl Try.func40 (by kernel_rfl) rfl #[.pointer (some ⟨g, 0, none⟩), .int .i64 64] rfl wT ?_; (with_reducible refine (spec_l01Next.calls g c pm_ tm_ 64 m2 q_ s_ w0 _ ?side1 ?side2 EB.out).mono ?_); (case side1 => exact HI.out); (case side2 => exact HB.out); rintro e wb ⟨rfl, hi, hb, hk⟩; refine ⟨_, rfl, ?_⟩; replace K4 := Aside0.mk (KeepBut.blk hk K4.out N4.out (by simp)); replace K5 := Aside0.mk (KeepBut.blk hk K5.out N5.out (by simp)); replace D := Aside0.mk (Kd.R_mono (Kd.R_keep (IsS64.apart HI.out D.out (by decide)) hk (fun _ h_ => h_.2)) (fun _ h_ => h_.1)); replace HK := Aside0.mk (KeepBut.trans HK.out hk (.inl rfl)); replace HB := Aside0.mk hb; replace HI := Aside0.mk hi; clear hi hb hk; obtain ⟨⟨hczs_0, hczs_1, hczs_2, hczs_3, hczs_4, hczs_5, hczs_6, hczs_7, hczs_8, hczs_9, hczs_10, hczs_11⟩, hfzs_0, hfzs_1, hfzs_2, hfzs_3, hfzs_4, hfzs_5, hfzs_6, hfzs_7, hfzs_8, hfzs_9, hfzs_10, hfzs_11⟩ := cells12 K5.out))
        go_meet
        case rel => exact ⟨m2, q_, s_, HJ, ⟨IsS64.far (p := ⟨g5, 4, none⟩) HI.out N5.out.symm (.int .i64 m2)⟩, ⟨below_set HB.out X5.out⟩, ⟨keep_far (p := ⟨g5, 4, none⟩) HK.out G5.out (.int .i64 m2)⟩, ⟨blk_far (p := ⟨g5, 4, none⟩) K4.out N45.out (.int .i64 m2)⟩, ⟨blk_put K5.out 4 (.int .i64 m2) rfl⟩, ⟨Kd.R_mono (Kd.R_far (p := ⟨g5, 4, none⟩) (Kd.R_types D.out K5.out (by decide)) (fun _ hk => hk.2) (.int .i64 m2)) (fun _ hk => hk.1)⟩⟩
      · rw [if_neg b1] at H
        have b1b : ((m) == 0) = false := beq_eq_false_iff_ne.mpr b1
        have b1c : ((m) != 0) = true := bne_iff_ne.mpr b1
        clear b1
        have HJ := Aside0.mk H
        clear H
        go_wp2
        go_meet
        case rel => exact ⟨x4, pm_, tm_, HJ, HI, HB, HK, K4, K5, D⟩
    case rest =>
      clear HJ HI HB HK K4 K5 D EA
      obtain ⟨y4, p_, t_, HJ, HI, HB, HK, K4, K5, D⟩ := hcut
      have H := HJ.out
      clear HJ
      unfold spec_l11Draw.j1 at H
      replace H := Option.bind_eq_some_iff.mp H
      obtain ⟨⟨m, pm_, tm_⟩, A, H⟩ := H
      dsimp only at A H
      have EA := Aside0.mk A
      clear A
      have HJ := Aside0.mk H
      clear H
      go_upto_if 38 with (first | ((with_reducible refine gate_callee (f := 56) rfl ?_); refine goesL_ (some 38) rfl rfl Try.func56 (by kernel_rfl) rfl #[.pointer (some ⟨g, 0, none⟩)] rfl wT ?_; (with_reducible refine (spec_l01Bool.calls g c p_ t_  m pm_ tm_ w0 _ ?side1 ?side2 EA.out).mono ?_); (case side1 => exact HI.out); (case side2 => exact HB.out); rintro e wa ⟨rfl, hi, hb, hk⟩; refine ⟨_, rfl, ?_⟩; replace K4 := Aside0.mk (KeepBut.blk hk K4.out N4.out (by simp)); replace K5 := Aside0.mk (KeepBut.blk hk K5.out N5.out (by simp)); replace D := Aside0.mk (Kd.R_mono (Kd.R_keep (IsS64.apart HI.out D.out (by decide)) hk (fun _ h_ => h_.2)) (fun _ h_ => h_.1)); replace HK := Aside0.mk (KeepBut.trans HK.out hk (.inl rfl)); replace HB := Aside0.mk hb; replace HI := Aside0.mk hi; clear hi hb hk; skip))
      (try simp only [Act.put, List.setIfInBounds_toArray, List.set_cons_zero, List.set_cons_succ])
      go_cut [] (fun wc => ∃ (y6 : Int) (p_ t_ : Int), Aside0 (spec_l11Draw.j2 k x0 x1 n3 n4 y4 n6 y6 false 0 false c p_ t_ dl = some (r0, r1, r2, r3, r4, r5, r6, r7, r8, r9, aT, aU, aV, aW)) ∧ Aside0 (IsS64 w0 wc g c p_ t_) ∧ Aside0 (Below w0.heap.size w0 wc) ∧ Aside0 (KeepBut w wc g none) ∧ Aside0 (wc.heap[g4]? = some (.cells #[.int .i64 0, .int .i64 0, .int .i64 0, .int .i64 0, .int .i64 0, .int .i64 0, .int .i64 0, .bool false, .int .i64 0, .bool false, .slice none 0 0, .slice none 0 0] 25 (0, 0))) ∧ Aside0 (wc.heap[g5]? = some (.cells #[.int .i64 x0, .int .i64 x1, .int .i64 n3, .int .i64 n4, .int .i64 y4, .int .i64 n6, .int .i64 y6, .bool false, .int .i64 0, .bool false, .slice none 0 0, .slice Ad dl.length cd] 25 (0, 0))) ∧ Aside0 (Kd.R (Kd.int .u8) 5 wc w.heap.size (fun _ => True) (.slice Ad dl.length cd) dl))
      case first =>
        have H := HJ.out
        clear HJ
        by_cases b1 : m = true
        · rw [if_pos b1] at H
          subst b1
          replace H := Option.bind_eq_some_iff.mp H
          obtain ⟨⟨m2, q_, s_⟩, A, H⟩ := H
          dsimp only at A H
          have EB := Aside0.mk A
          clear A
          have HJ := Aside0.mk H
          clear H
          go_wp2_with (first | ((with_reducible refine gate_callee (f := 40) rfl ?_); refine goesL_ (some 40) rfl rfl Try.func40 (by kernel_rfl) rfl #[.pointer (some ⟨g, 0, none⟩), .int .i64 1000] rfl wT ?_; (with_reducible refine (spec_l01Next.calls g c pm_ tm_ 1000 m2 q_ s_ w0 _ ?side1 ?side2 EB.out).mono ?_); (case side1 => exact HI.out); (case side2 => exact HB.out); rintro e wb ⟨rfl, hi, hb, hk⟩; refine ⟨_, rfl, ?_⟩; replace K4 := Aside0.mk (KeepBut.blk hk K4.out N4.out (by simp)); replace K5 := Aside0.mk (KeepBut.blk hk K5.out N5.out (by simp)); replace D := Aside0.mk (Kd.R_mono (Kd.R_keep (IsS64.apart HI.out D.out (by decide)) hk (fun _ h_ => h_.2)) (fun _ h_ => h_.1)); replace HK := Aside0.mk (KeepBut.trans HK.out hk (.inl rfl)); replace HB := Aside0.mk hb; replace HI := Aside0.mk hi; clear hi hb hk; obtain ⟨⟨hczs_0, hczs_1, hczs_2, hczs_3, hczs_4, hczs_5, hczs_6, hczs_7, hczs_8, hczs_9, hczs_10, hczs_11⟩, hfzs_0, hfzs_1, hfzs_2, hfzs_3, hfzs_4, hfzs_5, hfzs_6, hfzs_7, hfzs_8, hfzs_9, hfzs_10, hfzs_11⟩ := cells12 K5.out))
          go_meet
          case rel => exact ⟨wrap64 (536 + m2), q_, s_, HJ, ⟨IsS64.far (p := ⟨g5, 6, none⟩) HI.out N5.out.symm (.int .i64 (wrap64 (536 + m2)))⟩, ⟨below_set HB.out X5.out⟩, ⟨keep_far (p := ⟨g5, 6, none⟩) HK.out G5.out (.int .i64 (wrap64 (536 + m2)))⟩, ⟨blk_far (p := ⟨g5, 6, none⟩) K4.out N45.out (.int .i64 (wrap64 (536 + m2)))⟩, ⟨blk_put K5.out 6 (.int .i64 (wrap64 (536 + m2))) rfl⟩, ⟨Kd.R_mono (Kd.R_far (p := ⟨g5, 6, none⟩) (Kd.R_types D.out K5.out (by decide)) (fun _ hk => hk.2) (.int .i64 (wrap64 (536 + m2)))) (fun _ hk => hk.1)⟩⟩
        · rw [if_neg b1] at H
          obtain rfl : m = false := Bool.eq_false_iff.mpr b1
          have HJ := Aside0.mk H
          clear H
          go_wp2
          go_meet
          case rel => exact ⟨0, pm_, tm_, HJ, HI, HB, HK, K4, K5, D⟩
      case rest =>
        clear HJ HI HB HK K4 K5 D EA
        obtain ⟨y6, p_, t_, HJ, HI, HB, HK, K4, K5, D⟩ := hcut
        have H := HJ.out
        clear HJ
        unfold spec_l11Draw.j2 at H
        replace H := Option.bind_eq_some_iff.mp H
        obtain ⟨⟨m, pm_, tm_⟩, A, H⟩ := H
        dsimp only at A H
        have EA := Aside0.mk A
        clear A
        have HJ := Aside0.mk H
        clear H
        go_upto_if 44 with (first | ((with_reducible refine gate_callee (f := 56) rfl ?_); refine goesL_ (some 44) rfl rfl Try.func56 (by kernel_rfl) rfl #[.pointer (some ⟨g, 0, none⟩)] rfl wT ?_; (with_reducible refine (spec_l01Bool.calls g c p_ t_  m pm_ tm_ w0 _ ?side1 ?side2 EA.out).mono ?_); (case side1 => exact HI.out); (case side2 => exact HB.out); rintro e wa ⟨rfl, hi, hb, hk⟩; refine ⟨_, rfl, ?_⟩; replace K4 := Aside0.mk (KeepBut.blk hk K4.out N4.out (by simp)); replace K5 := Aside0.mk (KeepBut.blk hk K5.out N5.out (by simp)); replace D := Aside0.mk (Kd.R_mono (Kd.R_keep (IsS64.apart HI.out D.out (by decide)) hk (fun _ h_ => h_.2)) (fun _ h_ => h_.1)); replace HK := Aside0.mk (KeepBut.trans HK.out hk (.inl rfl)); replace HB := Aside0.mk hb; replace HI := Aside0.mk hi; clear hi hb hk; skip))
        (try simp only [Act.put, List.setIfInBounds_toArray, List.set_cons_zero, List.set_cons_succ])
        go_cut [] (fun wc => ∃ (y7 : Bool) (y8 : Int) (p_ t_ : Int), Aside0 (spec_l11Draw.j3 k x0 x1 n3 n4 y4 n6 y6 y7 y8 false c p_ t_ dl = some (r0, r1, r2, r3, r4, r5, r6, r7, r8, r9, aT, aU, aV, aW)) ∧ Aside0 (IsS64 w0 wc g c p_ t_) ∧ Aside0 (Below w0.heap.size w0 wc) ∧ Aside0 (KeepBut w wc g none) ∧ Aside0 (wc.heap[g4]? = some (.cells #[.int .i64 0, .int .i64 0, .int .i64 0, .int .i64 0, .int .i64 0, .int .i64 0, .int .i64 0, .bool false, .int .i64 0, .bool false, .slice none 0 0, .slice none 0 0] 25 (0, 0))) ∧ Aside0 (wc.heap[g5]? = some (.cells #[.int .i64 x0, .int .i64 x1, .int .i64 n3, .int .i64 n4, .int .i64 y4, .int .i64 n6, .int .i64 y6, .bool y7, .int .i64 y8, .bool false, .slice none 0 0, .slice Ad dl.length cd] 25 (0, 0))) ∧ Aside0 (Kd.R (Kd.int .u8) 5 wc w.heap.size (fun _ => True) (.slice Ad dl.length cd) dl))
        case first =>
          have H := HJ.out
          clear HJ
          by_cases b1 : m = true
          · rw [if_pos b1] at H
            subst b1
            replace H := Option.bind_eq_some_iff.mp H
            obtain ⟨⟨m2, q_, s_⟩, A, H⟩ := H
            dsimp only at A H
            have EB := Aside0.mk A
            clear A
            have HJ := Aside0.mk H
            clear H
            obtain ⟨⟨hczs_0, hczs_1, hczs_2, hczs_3, hczs_4, hczs_5, hczs_6, hczs_7, hczs_8, hczs_9, hczs_10, hczs_11⟩, hfzs_0, hfzs_1, hfzs_2, hfzs_3, hfzs_4, hfzs_5, hfzs_6, hfzs_7, hfzs_8, hfzs_9, hfzs_10, hfzs_11⟩ := cells12 K5.out
            go_upto_region 8 with (fail)
            have D_ := Aside0.mk (Kd.R_mono (Kd.R_far (p := ⟨g5, 7, none⟩) (Kd.R_types D.out K5.out (by decide)) (fun _ hk => hk.2) (.bool true)) (fun _ hk => hk.1))
            have K4_ := Aside0.mk (blk_far (p := ⟨g5, 7, none⟩) K4.out N45.out (.bool true))
            have HI_ := Aside0.mk (IsS64.far (p := ⟨g5, 7, none⟩) HI.out N5.out.symm (.bool true))
            have HK_ := Aside0.mk (keep_far (p := ⟨g5, 7, none⟩) HK.out G5.out (.bool true))
            have HB_ := Aside0.mk ((below_set HB.out X5.out : Below w0.heap.size w0 (wa.setCell ⟨g5, 7, none⟩ (.bool true))))
            have K5_ : Aside0 ((wa.setCell ⟨g5, 7, none⟩ (.bool true)).heap[g5]? = some (.cells #[.int .i64 x0, .int .i64 x1, .int .i64 n3, .int .i64 n4, .int .i64 y4, .int .i64 n6, .int .i64 y6, .bool true, .int .i64 0, .bool false, .slice none 0 0, .slice Ad dl.length cd] 25 (0, 0))) := ⟨blk_put K5.out 7 (.bool true) rfl⟩
            clear D K4 HI HK HB K5
            have D := D_
            have K4 := K4_
            have HI := HI_
            have HK := HK_
            have HB := HB_
            have K5 := K5_
            clear D_ K4_ HI_ HK_ HB_ K5_
            clear hczs_0 hfzs_0 hczs_1 hfzs_1 hczs_2 hfzs_2 hczs_3 hfzs_3 hczs_4 hfzs_4 hczs_5 hfzs_5 hczs_6 hfzs_6 hczs_7 hfzs_7 hczs_8 hfzs_8 hczs_9 hfzs_9 hczs_10 hfzs_10 hczs_11 hfzs_11
            generalize wa.setCell ⟨g5, 7, none⟩ (.bool true) = wz at D K4 HI HK HB K5 ⊢
            go_wp2_with (first | ((with_reducible refine gate_callee (f := 40) rfl ?_); refine goesL_ (some 47) rfl rfl Try.func40 (by kernel_rfl) rfl #[.pointer (some ⟨g, 0, none⟩), .int .i64 15] rfl wT ?_; (with_reducible refine (spec_l01Next.calls g c pm_ tm_ 15 m2 q_ s_ w0 _ ?side1 ?side2 EB.out).mono ?_); (case side1 => exact HI.out); (case side2 => exact HB.out); rintro e wb ⟨rfl, hi, hb, hk⟩; refine ⟨_, rfl, ?_⟩; replace K4 := Aside0.mk (KeepBut.blk hk K4.out N4.out (by simp)); replace K5 := Aside0.mk (KeepBut.blk hk K5.out N5.out (by simp)); replace D := Aside0.mk (Kd.R_mono (Kd.R_keep (IsS64.apart HI.out D.out (by decide)) hk (fun _ h_ => h_.2)) (fun _ h_ => h_.1)); replace HK := Aside0.mk (KeepBut.trans HK.out hk (.inl rfl)); replace HB := Aside0.mk hb; replace HI := Aside0.mk hi; clear hi hb hk; obtain ⟨⟨hczs_0, hczs_1, hczs_2, hczs_3, hczs_4, hczs_5, hczs_6, hczs_7, hczs_8, hczs_9, hczs_10, hczs_11⟩, hfzs_0, hfzs_1, hfzs_2, hfzs_3, hfzs_4, hfzs_5, hfzs_6, hfzs_7, hfzs_8, hfzs_9, hfzs_10, hfzs_11⟩ := cells12 K5.out))
            go_meet
            case rel => exact ⟨true, m2, q_, s_, HJ, ⟨IsS64.far (p := ⟨g5, 8, none⟩) HI.out N5.out.symm (.int .i64 m2)⟩, ⟨below_set HB.out X5.out⟩, ⟨keep_far (p := ⟨g5, 8, none⟩) HK.out G5.out (.int .i64 m2)⟩, ⟨blk_far (p := ⟨g5, 8, none⟩) K4.out N45.out (.int .i64 m2)⟩, ⟨blk_put K5.out 8 (.int .i64 m2) rfl⟩, ⟨Kd.R_mono (Kd.R_far (p := ⟨g5, 8, none⟩) (Kd.R_types D.out K5.out (by decide)) (fun _ hk => hk.2) (.int .i64 m2)) (fun _ hk => hk.1)⟩⟩
          · rw [if_neg b1] at H
            obtain rfl : m = false := Bool.eq_false_iff.mpr b1
            have HJ := Aside0.mk H
            clear H
            go_wp2
            go_meet
            case rel => exact ⟨false, 0, pm_, tm_, HJ, HI, HB, HK, K4, K5, D⟩
        case rest =>
          clear HJ HI HB HK K4 K5 D EA
          obtain ⟨y7, y8, p_, t_, HJ, HI, HB, HK, K4, K5, D⟩ := hcut
          have H := HJ.out
          clear HJ
          unfold spec_l11Draw.j3 at H
          replace H := Option.bind_eq_some_iff.mp H
          obtain ⟨⟨y9, pa, ta⟩, A, H⟩ := H
          dsimp only at A H
          have EA := Aside0.mk A
          clear A
          replace H := Option.bind_eq_some_iff.mp H
          obtain ⟨⟨n, pb, tb⟩, A, H⟩ := H
          dsimp only at A H
          have EB := Aside0.mk A
          clear A
          replace H := Option.bind_eq_some_iff.mp H
          obtain ⟨⟨sr, pr, tr⟩, A, H⟩ := H
          dsimp only at A H
          have HA := Aside0.mk A
          clear A
          simp only [Option.some.injEq, Prod.mk.injEq] at H
          obtain ⟨rfl, rfl, rfl, rfl, rfl, rfl, rfl, rfl, rfl, rfl, rfl, rfl, rfl, rfl⟩ := H
          go_upto_region 10 with (first | ((with_reducible refine gate_callee (f := 56) rfl ?_); refine goesL_ (some 50) rfl rfl Try.func56 (by kernel_rfl) rfl #[.pointer (some ⟨g, 0, none⟩)] rfl wT ?_; (with_reducible refine (spec_l01Bool.calls g c p_ t_  y9 pa ta w0 _ ?side1 ?side2 EA.out).mono ?_); (case side1 => exact HI.out); (case side2 => exact HB.out); rintro e wa ⟨rfl, hi, hb, hk⟩; refine ⟨_, rfl, ?_⟩; replace K4 := Aside0.mk (KeepBut.blk hk K4.out N4.out (by simp)); replace K5 := Aside0.mk (KeepBut.blk hk K5.out N5.out (by simp)); replace D := Aside0.mk (Kd.R_mono (Kd.R_keep (IsS64.apart HI.out D.out (by decide)) hk (fun _ h_ => h_.2)) (fun _ h_ => h_.1)); replace HK := Aside0.mk (KeepBut.trans HK.out hk (.inl rfl)); replace HB := Aside0.mk hb; replace HI := Aside0.mk hi; clear hi hb hk; obtain ⟨⟨hczs_0, hczs_1, hczs_2, hczs_3, hczs_4, hczs_5, hczs_6, hczs_7, hczs_8, hczs_9, hczs_10, hczs_11⟩, hfzs_0, hfzs_1, hfzs_2, hfzs_3, hfzs_4, hfzs_5, hfzs_6, hfzs_7, hfzs_8, hfzs_9, hfzs_10, hfzs_11⟩ := cells12 K5.out))
          have D_ := Aside0.mk (Kd.R_mono (Kd.R_far (p := ⟨g5, 9, none⟩) (Kd.R_types D.out K5.out (by decide)) (fun _ hk => hk.2) (.bool y9)) (fun _ hk => hk.1))
          have K4_ := Aside0.mk (blk_far (p := ⟨g5, 9, none⟩) K4.out N45.out (.bool y9))
          have HI_ := Aside0.mk (IsS64.far (p := ⟨g5, 9, none⟩) HI.out N5.out.symm (.bool y9))
          have HK_ := Aside0.mk (keep_far (p := ⟨g5, 9, none⟩) HK.out G5.out (.bool y9))
          have HB_ := Aside0.mk ((below_set HB.out X5.out : Below w0.heap.size w0 (wa.setCell ⟨g5, 9, none⟩ (.bool y9))))
          have K5_ : Aside0 ((wa.setCell ⟨g5, 9, none⟩ (.bool y9)).heap[g5]? = some (.cells #[.int .i64 x0, .int .i64 x1, .int .i64 n3, .int .i64 n4, .int .i64 y4, .int .i64 n6, .int .i64 y6, .bool y7, .int .i64 y8, .bool y9, .slice none 0 0, .slice Ad dl.length cd] 25 (0, 0))) := ⟨blk_put K5.out 9 (.bool y9) rfl⟩
          clear D K4 HI HK HB K5
          have D := D_
          have K4 := K4_
          have HI := HI_
          have HK := HK_
          have HB := HB_
          have K5 := K5_
          clear D_ K4_ HI_ HK_ HB_ K5_
          clear hczs_0 hfzs_0 hczs_1 hfzs_1 hczs_2 hfzs_2 hczs_3 hfzs_3 hczs_4 hfzs_4 hczs_5 hfzs_5 hczs_6 hfzs_6 hczs_7 hfzs_7 hczs_8 hfzs_8 hczs_9 hfzs_9 hczs_10 hfzs_10 hczs_11 hfzs_11
          generalize wa.setCell ⟨g5, 9, none⟩ (.bool y9) = wz at D K4 HI HK HB K5 ⊢
          go_wp2_with (first | ((with_reducible refine gate_callee (f := 40) rfl ?_); refine goesL_ (some 53) rfl rfl Try.func40 (by kernel_rfl) rfl #[.pointer (some ⟨g, 0, none⟩), .int .i64 5] rfl wT ?_; (with_reducible refine (spec_l01Next.calls g c pa ta 5 n pb tb w0 _ ?side1 ?side2 EB.out).mono ?_); (case side1 => exact HI.out); (case side2 => exact HB.out); rintro e wb ⟨rfl, hi, hb, hk⟩; refine ⟨_, rfl, ?_⟩; replace K4 := Aside0.mk (KeepBut.blk hk K4.out N4.out (by simp)); replace K5 := Aside0.mk (KeepBut.blk hk K5.out N5.out (by simp)); replace D := Aside0.mk (Kd.R_mono (Kd.R_keep (IsS64.apart HI.out D.out (by decide)) hk (fun _ h_ => h_.2)) (fun _ h_ => h_.1)); replace HK := Aside0.mk (KeepBut.trans HK.out hk (.inl rfl)); replace HB := Aside0.mk hb; replace HI := Aside0.mk hi; clear hi hb hk; skip))
          go_loopg [7] k (fun kq v7 v => ∃ (i pi ti : Int) (As : Option Addr) (cs : Nat) (s : List (S60)), v7 = .int .i64 i ∧ Aside0 (spec_l11Draw.l0 kq n i c pi ti s = some (sr, pr, tr)) ∧ Aside0 (kq ≤ k) ∧ Aside0 (Kd.R k60 60 v w.heap.size (fun _ => True) (.slice As s.length cs) s) ∧ Aside0 (Kd.R (Kd.int .u8) 5 v w.heap.size (fun _ => True) (.slice Ad dl.length cd) dl) ∧ Aside0 (v.heap[g4]? = some (.cells #[.int .i64 0, .int .i64 0, .int .i64 0, .int .i64 0, .int .i64 0, .int .i64 0, .int .i64 0, .bool false, .int .i64 0, .bool false, .slice none 0 0, .slice none 0 0] 25 (0, 0))) ∧ Aside0 (v.heap[g5]? = some (.cells #[.int .i64 x0, .int .i64 x1, .int .i64 n3, .int .i64 n4, .int .i64 y4, .int .i64 n6, .int .i64 y6, .bool y7, .int .i64 y8, .bool y9, .slice As s.length cs, .slice Ad dl.length cd] 25 (0, 0))) ∧ Aside0 (IsS64 w0 v g c pi ti) ∧ Aside0 (Below w0.heap.size w0 v) ∧ Aside0 (KeepBut w v g none))
          case atStart => exact ⟨1, pb, tb, none, 0, [], (by first | rfl | (simp; done) | (simp [*]; done) | (simp [errW_none, errW_some] <;> rfl) | (simp [*, errW_none, errW_some] <;> rfl)), HA, ⟨Nat.le_refl _⟩, ⟨Kd.R_nil _ _ _ _ _⟩, D, K4, K5, HI, HB, HK⟩
          case round =>
            clear HA D K4 K5 HI HB HK
            obtain ⟨i, pi, ti, As, cs, s, rfl, HA, a4, S, D, K4, K5, HI, HB, HK⟩ := hrel
            cases gk with
            | zero => exact absurd HA.out (by simp [spec_l11Draw.l0])
            | succ k1 =>
            have H := HA.out
            clear HA
            simp only [spec_l11Draw.l0] at H
            by_cases f1 : i < n
            rotate_left
            · rw [if_neg f1] at H
              have f1b : decide (i < n) = false := decide_eq_false f1
              clear f1
              simp only [Option.some.injEq, Prod.mk.injEq] at H
              obtain ⟨rfl, rfl, rfl⟩ := H
              obtain ⟨⟨hczs_0, hczs_1, hczs_2, hczs_3, hczs_4, hczs_5, hczs_6, hczs_7, hczs_8, hczs_9, hczs_10, hczs_11⟩, hfzs_0, hfzs_1, hfzs_2, hfzs_3, hfzs_4, hfzs_5, hfzs_6, hfzs_7, hfzs_8, hfzs_9, hfzs_10, hfzs_11⟩ := cells12 K5.out
              obtain ⟨⟨hcza_0, hcza_1, hcza_2, hcza_3, hcza_4, hcza_5, hcza_6, hcza_7, hcza_8, hcza_9, hcza_10, hcza_11⟩, hfza_0, hfza_1, hfza_2, hfza_3, hfza_4, hfza_5, hfza_6, hfza_7, hfza_8, hfza_9, hfza_10, hfza_11⟩ := cells12 K4.out
              go_wp2_with (first | ((with_reducible refine gate_store (t := 25) (p := 4) rfl ?_); refine store_event (t := 25) (p := 4) (v := ?vo_1) (w1 := put12 wr g4 (.int .i64 x0) (.int .i64 x1) (.int .i64 n3) (.int .i64 n4) (.int .i64 y4) (.int .i64 n6) (.int .i64 y6) (.bool y7) (.int .i64 y8) (.bool y9) (.slice As s.length cs) (.slice Ad dl.length cd)) ?hg ?ho ?hn ?hr ?_; (case ho => rfl); (case hg => rfl); (case hn => rfl); (case hr => first | (go_simp; done) | (go_simp; rfl)); intro vS hw; replace S : Aside0 (Kd.R k60 60 vS w.heap.size (fun _ => True) (.slice As s.length cs) s) := ⟨by rw [hw]; exact Kd.R_mono (Kd.R_step (Kd.R_types S.out K4.out (by decide)) (fun _ hk _ => far12 hk.2)) (fun _ hk => hk.1)⟩; replace D : Aside0 (Kd.R (Kd.int .u8) 5 vS w.heap.size (fun _ => True) (.slice Ad dl.length cd) dl) := ⟨by rw [hw]; exact Kd.R_mono (Kd.R_step (Kd.R_types D.out K4.out (by decide)) (fun _ hk _ => far12 hk.2)) (fun _ hk => hk.1)⟩; replace HI : Aside0 (IsS64 w0 vS g c pi ti) := ⟨by rw [hw]; refine IsS64.far ?_ N4.out.symm _; refine IsS64.far ?_ N4.out.symm _; refine IsS64.far ?_ N4.out.symm _; refine IsS64.far ?_ N4.out.symm _; refine IsS64.far ?_ N4.out.symm _; refine IsS64.far ?_ N4.out.symm _; refine IsS64.far ?_ N4.out.symm _; refine IsS64.far ?_ N4.out.symm _; refine IsS64.far ?_ N4.out.symm _; refine IsS64.far ?_ N4.out.symm _; refine IsS64.far ?_ N4.out.symm _; refine IsS64.far ?_ N4.out.symm _; exact HI.out⟩; replace HK : Aside0 (KeepBut w vS g none) := ⟨by rw [hw]; refine keep_far ?_ G4.out _; refine keep_far ?_ G4.out _; refine keep_far ?_ G4.out _; refine keep_far ?_ G4.out _; refine keep_far ?_ G4.out _; refine keep_far ?_ G4.out _; refine keep_far ?_ G4.out _; refine keep_far ?_ G4.out _; refine keep_far ?_ G4.out _; refine keep_far ?_ G4.out _; refine keep_far ?_ G4.out _; refine keep_far ?_ G4.out _; exact HK.out⟩; replace HB : Aside0 (Below w0.heap.size w0 vS) := ⟨by rw [hw]; refine below_set ?_ X4.out; refine below_set ?_ X4.out; refine below_set ?_ X4.out; refine below_set ?_ X4.out; refine below_set ?_ X4.out; refine below_set ?_ X4.out; refine below_set ?_ X4.out; refine below_set ?_ X4.out; refine below_set ?_ X4.out; refine below_set ?_ X4.out; refine below_set ?_ X4.out; refine below_set ?_ X4.out; exact HB.out⟩; replace K4 : Aside0 (vS.heap[g4]? = some (.cells #[.int .i64 x0, .int .i64 x1, .int .i64 n3, .int .i64 n4, .int .i64 y4, .int .i64 n6, .int .i64 y6, .bool y7, .int .i64 y8, .bool y9, .slice As s.length cs, .slice Ad dl.length cd] 25 (0, 0))) := ⟨by rw [hw]; exact set12 K4.out⟩; clear hw))
              refine bodyPost_ret (results_cell_row rfl _ _ g4 25 #[.int .i64 x0, .int .i64 x1, .int .i64 n3, .int .i64 n4, .int .i64 y4, .int .i64 n6, .int .i64 y6, .bool y7, .int .i64 y8, .bool y9, .slice As s.length cs, .slice Ad dl.length cd] (0, 0) _ rfl K4.out Try.underlying25 rfl (by kernel_rfl)) rfl ?_
              exact ⟨.slice As s.length cs, .slice Ad dl.length cd, (by first | rfl | (simp; done) | (simp [*]; done) | (simp [errW_none, errW_some] <;> rfl) | (simp [*, errW_none, errW_some] <;> rfl)), S.out, D.out, HI.out, HB.out, HK.out⟩
            rw [if_pos f1] at H
            have f1b : decide (i < n) = true := decide_eq_true f1
            clear f1
            replace H := Option.bind_eq_some_iff.mp H
            obtain ⟨⟨u1_, pu, tu⟩, A, H⟩ := H
            dsimp only at A H
            have EU := Aside0.mk A
            clear A
            replace H := Option.bind_eq_some_iff.mp H
            obtain ⟨⟨u2_, pv, tv⟩, A, H⟩ := H
            dsimp only at A H
            have EV := Aside0.mk A
            clear A
            by_cases f2 : s.length < 8796093022208
            rotate_left
            · rw [if_neg f2] at H
              cases H
            rw [if_pos f2] at H
            have HS2 := Aside0.mk f2
            clear f2
            obtain ⟨s3, hs3⟩ : ∃ s_ : List (S60), s_ = s ++ [(⟨u1_, u2_⟩ : S60)] := ⟨_, rfl⟩
            rw [← hs3] at H
            have HS3 := Aside0.mk hs3
            clear hs3
            have H2 := Aside0.mk H
            clear H
            go_upto_region 14 with (fail)
            refine start_ (n := 11) (S := fun w' => w'.cell? ⟨g5, 10, none⟩ = some (.slice As s.length cs)) (ds := [10]) #[false, false, false, false, false, false, false, false, false, false, false] (by kernel_rfl) rfl rfl ((blk_cell K5.out 10).trans rfl) (fun hHeld => ?_)
            refine with_tabW spec_l11Draw.tab14 spec_l11Draw.bits14 (fun HT_ HW_ => ?_)
            replace K4 := Aside0.mk (blk_drew K4.out)
            replace K5 := Aside0.mk (blk_drew K5.out)
            replace S := Aside0.mk (Kd.R_drew S.out)
            replace D := Aside0.mk (Kd.R_drew D.out)
            replace HI := Aside0.mk (IsS64.drew HI.out)
            replace HK := Aside0.mk (keep_drew HK.out)
            replace HB := Aside0.mk (below_drew1 HB.out)
            generalize wr.drew = q0 at K4 K5 S D HI HK HB hHeld ⊢
            refine pure_ (i := 0) (N := some 59) (v := ?_) (a' := ?_) #[true, false, false, false, false, false, false, false, false, false, false] rfl rfl (any_of HT_.out (by kernel_rfl)) (fun _ _ _ h => h) (Or.inl ⟨by rfl, ?_⟩) ?_ ?_
            rotate_left
            {
              intro w'
              go_simp
              with_reducible rfl
            }
            rotate_left
            {
              simp only [Act.put, List.setIfInBounds_toArray, List.set_cons_zero, List.set_cons_succ, i64_w, i32_w]
              rfl
            }
            refine pure_ (i := 2) (N := some 61) (v := ?_) (a' := ?_) #[true, false, true, false, false, false, false, false, false, false, false] rfl rfl (any_of HT_.out (by kernel_rfl)) (fun _ _ _ h => h) (Or.inl ⟨by rfl, ?_⟩) ?_ ?_
            rotate_left
            {
              intro w'
              go_simp
              with_reducible rfl
            }
            rotate_left
            {
              simp only [Act.put, List.setIfInBounds_toArray, List.set_cons_zero, List.set_cons_succ, i64_w, i32_w]
              rfl
            }
            refine pure_ (i := 4) (N := some 63) (v := ?_) (a' := ?_) #[true, false, true, false, true, false, false, false, false, false, false] rfl rfl (any_of HT_.out (by kernel_rfl)) (fun _ _ _ h => h) (Or.inl ⟨by rfl, ?_⟩) ?_ ?_
            rotate_left
            {
              intro w'
              go_simp
              with_reducible rfl
            }
            rotate_left
            {
              simp only [Act.put, List.setIfInBounds_toArray, List.set_cons_zero, List.set_cons_succ, i64_w, i32_w]
              rfl
            }
            refine take_ (i := 1) (N := some 60) (v := ?_) (a' := ?_) #[true, true, true, false, true, false, false, false, false, false, false] rfl rfl (take_ofW HT_.out HW_.out (by kernel_rfl)) (fun _ _ _ h => h) (Or.inl ⟨by rfl, ?_⟩) hHeld ?_ ?_
            rotate_left
            {
              intro w' s0
              go_simp
              with_reducible rfl
            }
            rotate_left
            {
              simp only [Act.put, List.setIfInBounds_toArray, List.set_cons_zero, List.set_cons_succ, i64_w, i32_w]
              rfl
            }
            refine one_ (i := 3) (N := some 62) #[true, true, true, true, true, false, false, false, false, false, false] rfl rfl (one_of HT_.out (by kernel_rfl)) (by decide) (fun K hK => ?_)
            refine goes_ Try.func55 (by kernel_rfl) rfl #[.pointer (some ⟨g, 0, none⟩)] (by rfl) rfl rfl wT ?_
            with_reducible refine (spec_l01Seq.calls g c pi ti u1_ pu tu w0 _ ?side1 ?side2 EU.out).mono ?_
            (case side1 => exact HI.out)
            (case side2 => exact HB.out)
            rintro e q1 ⟨rfl, hi, hb, hk⟩
            refine ⟨_, rfl, ?_⟩
            clear hHeld
            replace K4 := Aside0.mk (KeepBut.blk hk K4.out N4.out (by simp))
            replace K5 := Aside0.mk (KeepBut.blk hk K5.out N5.out (by simp))
            replace S := Aside0.mk (Kd.R_mono (Kd.R_keep (IsS64.apart HI.out S.out (by decide)) hk (fun _ h_ => h_.2)) (fun _ h_ => h_.1))
            replace D := Aside0.mk (Kd.R_mono (Kd.R_keep (IsS64.apart HI.out D.out (by decide)) hk (fun _ h_ => h_.2)) (fun _ h_ => h_.1))
            replace HK := Aside0.mk (KeepBut.trans HK.out hk (.inl rfl))
            replace HB := Aside0.mk hb
            replace HI := Aside0.mk hi
            clear hi hb hk
            refine hK.out _ _ ((blk_cell K5.out 10).trans rfl) (fun hHeld => ?_)
            clear hK K
            refine norm_ (a' := ?_) ?_ ?_
            rotate_left
            {
              show Act.put _ (some 62) _ = _
              simp only [Act.put, List.setIfInBounds_toArray, List.set_cons_zero, List.set_cons_succ, i64_w, i32_w]
              rfl
            }
            refine one_ (i := 5) (N := some 64) #[true, true, true, true, true, true, false, false, false, false, false] rfl rfl (one_of HT_.out (by kernel_rfl)) (by decide) (fun K hK => ?_)
            refine goes_ Try.func55 (by kernel_rfl) rfl #[.pointer (some ⟨g, 0, none⟩)] (by rfl) rfl rfl wT ?_
            with_reducible refine (spec_l01Seq.calls g c pu tu u2_ pv tv w0 _ ?side1 ?side2 EV.out).mono ?_
            (case side1 => exact HI.out)
            (case side2 => exact HB.out)
            rintro e q2 ⟨rfl, hi, hb, hk⟩
            refine ⟨_, rfl, ?_⟩
            clear hHeld
            replace K4 := Aside0.mk (KeepBut.blk hk K4.out N4.out (by simp))
            replace K5 := Aside0.mk (KeepBut.blk hk K5.out N5.out (by simp))
            replace S := Aside0.mk (Kd.R_mono (Kd.R_keep (IsS64.apart HI.out S.out (by decide)) hk (fun _ h_ => h_.2)) (fun _ h_ => h_.1))
            replace D := Aside0.mk (Kd.R_mono (Kd.R_keep (IsS64.apart HI.out D.out (by decide)) hk (fun _ h_ => h_.2)) (fun _ h_ => h_.1))
            replace HK := Aside0.mk (KeepBut.trans HK.out hk (.inl rfl))
            replace HB := Aside0.mk hb
            replace HI := Aside0.mk hi
            clear hi hb hk
            refine hK.out _ _ ((blk_cell K5.out 10).trans rfl) (fun hHeld => ?_)
            clear hK K
            refine norm_ (a' := ?_) ?_ ?_
            rotate_left
            {
              show Act.put _ (some 64) _ = _
              simp only [Act.put, List.setIfInBounds_toArray, List.set_cons_zero, List.set_cons_succ, i64_w, i32_w]
              rfl
            }
            refine pure_ (i := 6) (N := some 65) (v := ?_) (a' := ?_) #[true, true, true, true, true, true, true, false, false, false, false] rfl rfl (any_of HT_.out (by kernel_rfl)) (fun _ _ _ h => h) (Or.inl ⟨by rfl, ?_⟩) ?_ ?_
            rotate_left
            {
              intro w'
              go_simp
              with_reducible rfl
            }
            rotate_left
            {
              simp only [Act.put, List.setIfInBounds_toArray, List.set_cons_zero, List.set_cons_succ, i64_w, i32_w]
              rfl
            }
            refine one_ (i := 7) (N := some 66) #[true, true, true, true, true, true, true, true, false, false, false] rfl rfl (one_of HT_.out (by kernel_rfl)) (by decide) (fun K hK => ?_)
            refine value_ (w1 := ?_) (v := ?_) (by rfl) rfl ?_ ?_
            rotate_left 2
            {
              go_simp
              constructor
              rfl
              rfl
            }
            clear hHeld
            refine hK.out _ _ ((blk_cell (blk_alloc K5.out _) 10).trans rfl) (fun hHeld => ?_)
            clear hK K
            refine norm_ (a' := ?_) ?_ ?_
            rotate_left
            {
              show Act.put _ (some 66) _ = _
              simp only [Act.put, List.setIfInBounds_toArray, List.set_cons_zero, List.set_cons_succ, i64_w, i32_w]
              rfl
            }
            refine one_ (i := 8) (N := some 67) #[true, true, true, true, true, true, true, true, true, false, false] rfl rfl (one_of HT_.out (by kernel_rfl)) (by decide) (fun K hK => ?_)
            refine Kd.R_append_step k60 w.heap.size (by rfl) (.tmp 60) (.tmp 66) 23 60 (.agg #[(.int .i64 0), (.int .i64 0)]) 16 rfl Try.underlying23 spec_l11Draw.info60 rfl (by decide) (by omega) (.slice As s.length cs) s (⟨u1_, u2_⟩ : S60) [.int .i64 u1_, .int .i64 u2_] (fun _ => True) (fun _ => False) rfl rfl ?aP (fun _ hk => hk.elim) ?aF ?aO (Below.refl _ _) ?aS ?aL ?_
            (case aP => exact k60_mkM _ _ _ (⟨u1_, u2_⟩ : S60))
            (case aF => exact (fun _ _ => trivial))
            (case aO => exact S.out)
            (case aS => exact keep_size HK.out)
            (case aL => have := HS2.out; omega)
            intro v1_ q4 ho hb hg hat
            rw [← HS3.out] at ho
            replace D := Aside0.mk (Kd.R_over' D.out (Kd.R_typed S.out) (by decide) hg)
            replace HI := Aside0.mk (IsS64.grown HI.out hg (IsS64.own_ne HI.out S.out (by decide)))
            replace HK := Aside0.mk (KeepBut.trans HK.out (KeepBut.of_grown hg g) (own_new S.out))
            replace K4 := Aside0.mk (blk_grown K4.out hg (Kd.R_ne S.out K4.out (by decide)))
            replace K5 := Aside0.mk (blk_grown K5.out hg (Kd.R_ne S.out K5.out (by decide)))
            replace HB := Aside0.mk (below_weaken HB.out HW0.out hb)
            clear S
            have S : Aside0 (Kd.R k60 60 q4 w.heap.size (fun _ => True) v1_ s3) := ⟨ho⟩
            clear ho hb hg hat hHeld
            obtain ⟨Az, cz, ez⟩ := Kd.R_slice S.out
            subst ez
            refine hK.out _ _ ((blk_cell K5.out 10).trans rfl) (fun hHeld => ?_)
            clear hK K
            refine norm_ (a' := ?_) ?_ ?_
            rotate_left
            {
              show Act.put _ (some 67) _ = _
              simp only [Act.put, List.setIfInBounds_toArray, List.set_cons_zero, List.set_cons_succ, i64_w, i32_w]
              rfl
            }
            refine pure_ (i := 9) (N := some 68) (v := ?_) (a' := ?_) #[true, true, true, true, true, true, true, true, true, true, false] rfl rfl (any_of HT_.out (by kernel_rfl)) (fun _ _ _ h => h) (Or.inl ⟨by rfl, ?_⟩) ?_ ?_
            rotate_left
            {
              intro w'
              go_simp
              with_reducible rfl
            }
            rotate_left
            {
              simp only [Act.put, List.setIfInBounds_toArray, List.set_cons_zero, List.set_cons_succ, i64_w, i32_w]
              rfl
            }
            refine last_ (i := 10) (N := none) #[true, true, true, true, true, true, true, true, true, true, true] rfl rfl (one_of HT_.out (by kernel_rfl)) (by decide) (fun K hK => ?_)
            obtain ⟨⟨hczs_0, hczs_1, hczs_2, hczs_3, hczs_4, hczs_5, hczs_6, hczs_7, hczs_8, hczs_9, hczs_10, hczs_11⟩, hfzs_0, hfzs_1, hfzs_2, hfzs_3, hfzs_4, hfzs_5, hfzs_6, hfzs_7, hfzs_8, hfzs_9, hfzs_10, hfzs_11⟩ := cells12 K5.out
            refine skip_ (w1 := q4.setCell ⟨g5, 10, none⟩ (.slice Az s3.length cz)) (by rfl) rfl ?_ ?_
            {
              first | (go_simp; done) | (go_simp; rfl)
            }
            refine hK.out _ _ ?_
            clear hK K
            refine done_ (done_of HT_.out (by kernel_rfl)) ?_
            clear HT_ HW_ hHeld
            clear hczs_0 hfzs_0 hczs_1 hfzs_1 hczs_2 hfzs_2 hczs_3 hfzs_3 hczs_4 hfzs_4 hczs_5 hfzs_5 hczs_6 hfzs_6 hczs_7 hfzs_7 hczs_8 hfzs_8 hczs_9 hfzs_9 hczs_10 hfzs_10 hczs_11 hfzs_11
            go_wp2
            go_roundg k1
            case measure => have := a4.out; omega
            case rel => exact ⟨wrap64 (i + 1), pv, tv, Az, cz, s3, (by first | rfl | (simp; done) | (simp [*]; done) | (simp [errW_none, errW_some] <;> rfl) | (simp [*, errW_none, errW_some] <;> rfl)), H2, ⟨by have := a4.out; omega⟩, ⟨Kd.R_mono (Kd.R_far (p := ⟨g5, 10, none⟩) (Kd.R_types S.out K5.out (by decide)) (fun _ hk => hk.2) (.slice Az s3.length cz)) (fun _ hk => hk.1)⟩, ⟨Kd.R_mono (Kd.R_far (p := ⟨g5, 10, none⟩) (Kd.R_types D.out K5.out (by decide)) (fun _ hk => hk.2) (.slice Az s3.length cz)) (fun _ hk => hk.1)⟩, ⟨blk_far (p := ⟨g5, 10, none⟩) K4.out N45.out (.slice Az s3.length cz)⟩, ⟨blk_put K5.out 10 (.slice Az s3.length cz) rfl⟩, ⟨IsS64.far (p := ⟨g5, 10, none⟩) HI.out N5.out.symm (.slice Az s3.length cz)⟩, ⟨below_set HB.out X5.out⟩, ⟨keep_far (p := ⟨g5, 10, none⟩) HK.out G5.out (.slice Az s3.length cz)⟩⟩
  · clear S
    rintro ⟨g5, aa, ab, Ad, cd⟩ dg ⟨S, X, L, D⟩
    refine norm_ (a' := ?_) ?_ ?_
    rotate_left
    {
      simp only [putAll, Act.put, List.setIfInBounds_toArray, List.set_cons_zero, List.set_cons_succ]
      rfl
    }
    refine one_ (i := 14) (N := some 22) (m25 12582911) rfl rfl (one_of HT_.out (by kernel_rfl)) (by decide) (fun K hK => ?_)
    obtain ⟨aq, eq_, hx⟩ := Kd.at_int (Kd.R_reads' L).2.2 n5 HN5.out (by rw [HFN.out]; exact HN8.out)
    obtain rfl : aa = aq := (by injection eq_)
    clear eq_
    refine value_ (w1 := ?_) (v := ?_) (by rfl) rfl ?_ ?_
    rotate_left 2
    {
      go_simp
      constructor
      rfl
      rfl
    }
    clear hx
    refine hK.out _ _ trivial (fun _ => ?_)
    clear hK K
    refine norm_ (a' := ?_) ?_ ?_
    rotate_left
    {
      show Act.put _ (some 22) _ = _
      simp only [Act.put, List.setIfInBounds_toArray, List.set_cons_zero, List.set_cons_succ, i64_w, i32_w]
      rfl
    }
    refine pure_ (i := 22) (N := some 30) (v := ?_) (a' := ?_) (m25 16777215) rfl rfl (any_of HT_.out (by kernel_rfl)) (fun _ _ _ h => h) (Or.inl ⟨by rfl, ?_⟩) ?_ ?_
    rotate_left
    {
      intro w'
      go_simp
      with_reducible rfl
    }
    rotate_left
    {
      simp only [Act.put, List.setIfInBounds_toArray, List.set_cons_zero, List.set_cons_succ, i64_w, i32_w]
      rfl
    }
    exact nrm_ (ac (g5, aa, ab, Ad, cd) _ ⟨S, X, D⟩)
  · clear S
    rintro ⟨g5, aa, ab, Ad, cd⟩ dh ⟨S, X⟩
    refine norm_ (a' := ?_) ?_ ?_
    rotate_left
    {
      simp only [putAll, Act.put, List.setIfInBounds_toArray, List.set_cons_zero, List.set_cons_succ]
      rfl
    }
    refine one_ (i := 21) (N := some 29) (m25 12582911) rfl rfl (one_of HT_.out (by kernel_rfl)) (by decide) (fun K hK => ?_)
    refine goes_ Try.func54 (by kernel_rfl) rfl #[.pointer (some ⟨g, 0, none⟩), .int .i64 n7] (by rfl) rfl rfl wT ?_
    with_reducible refine (spec_l01Bytes.calls k g c p7 t7 n7 dl p8 t8 w0 _ S.i S.b E8.out).mono ?_
    rintro e di ⟨vd, rfl, ho, hi, hb, hk⟩
    refine ⟨_, rfl, ?_⟩
    replace ho := Kd.R_lower ho (keep_size S.2.2.1)
    obtain ⟨Ad, cd, ed⟩ := Kd.R_slice ho
    subst ed
    refine hK.out _ _ trivial (fun _ => ?_)
    clear hK K
    refine norm_ (a' := ?_) ?_ ?_
    rotate_left
    {
      show Act.put _ (some 29) _ = _
      simp only [Act.put, List.setIfInBounds_toArray, List.set_cons_zero, List.set_cons_succ, i64_w, i32_w]
      rfl
    }
    refine pure_ (i := 22) (N := some 30) (v := ?_) (a' := ?_) (m25 16777215) rfl rfl (any_of HT_.out (by kernel_rfl)) (fun _ _ _ h => h) (Or.inl ⟨by rfl, ?_⟩) ?_ ?_
    rotate_left
    {
      intro w'
      go_simp
      with_reducible rfl
    }
    rotate_left
    {
      simp only [Act.put, List.setIfInBounds_toArray, List.set_cons_zero, List.set_cons_succ, i64_w, i32_w]
      rfl
    }
    exact nrm_ (ac (g5, aa, ab, Ad, cd) _ ⟨(S.call N4.out hi hb hk), (X.call hk), ho⟩)
  · clear S
    rintro ⟨g5, aa, ab, Ad, cd⟩ dj ⟨S, D⟩
    refine norm_ (a' := ?_) ?_ ?_
    rotate_left
    {
      simp only [putAll, Act.put, List.setIfInBounds_toArray, List.set_cons_zero, List.set_cons_succ]
      rfl
    }
    refine one_ (i := 23) (N := some 5) (m25 16777215) rfl rfl (one_of HT_.out (by kernel_rfl)) (by decide) (fun K hK => ?_)
    refine box_step ?hg (N := 5) ?hd (cs := #[.int .i64 0, .int .i64 0, .int .i64 0, .int .i64 0, .int .i64 0, .int .i64 0, .int .i64 0, .bool false, .int .i64 0, .bool false, .slice none 0 0, .slice none 0 0]) (t := 25) ?hr ?_; (case hd => rfl); (case hg => rfl); (case hr => first | (go_simp; done) | (go_simp; rfl))
    intro g5 hg bF hbox hb
    have hg_ := Aside0.mk hg
    clear hg
    refine hK.out _ _ trivial (fun _ => ?_)
    clear hK K
    refine norm_ (a' := ?_) ?_ ?_
    rotate_left
    {
      show Act.put _ (some 5) _ = _
      simp only [Act.put, List.setIfInBounds_toArray, List.set_cons_zero, List.set_cons_succ, i64_w, i32_w]
      rfl
    }
    exact nrm_ (ac (g5, aa, ab, Ad, cd) _ ⟨(S.made hb), (spec_l11Draw.Bx_new S HW0.out hg_.out hbox), (Kd.R_below D hb)⟩)
  · clear S
    rintro ⟨g5, aa, ab, Ad, cd⟩ bG ⟨S, X, D⟩
    refine norm_ (a' := ?_) ?_ ?_
    rotate_left
    {
      simp only [putAll, Act.put, List.setIfInBounds_toArray, List.set_cons_zero, List.set_cons_succ]
      rfl
    }
    refine one_ (i := 10) (N := some 18) (m25 12558335) rfl rfl (one_of HT_.out (by kernel_rfl)) (by decide) (fun K hK => ?_)
    refine Kd.R_lit_step (Kd.int .i64) _ 2 ?hg (N := 18) ?hd (xs := ([2, 18, 16, 24, 17, 4, 20, 0] : List Int)) (inner := [.int .i64 2, .int .i64 18, .int .i64 16, .int .i64 24, .int .i64 17, .int .i64 4, .int .i64 20, .int .i64 0]) (ok := fun _ => True) (okp := fun _ => True) ?hr (spec_l11Draw.lit _ _ _) (fun _ hk => hk) trivial (Below.refl _ _) (Nat.le_refl _) (by simp) ?_; (case hd => rfl); (case hg => rfl); (case hr => first | (go_simp; done) | (go_simp; rfl))
    intro ax bH ho hb _ _
    rw [← HFL.out] at ho
    replace ho := Kd.R_lower ho (keep_size S.2.2.1)
    obtain ⟨Al, ab, el⟩ := Kd.R_slice ho
    subst el
    obtain ⟨aa, fo, _⟩ := Kd.at_int (Kd.R_reads' ho).2.2 0 (by decide) (by rw [HFN.out]; decide)
    subst fo
    refine hK.out _ _ trivial (fun _ => ?_)
    clear hK K
    refine norm_ (a' := ?_) ?_ ?_
    rotate_left
    {
      show Act.put _ (some 18) _ = _
      simp only [Act.put, List.setIfInBounds_toArray, List.set_cons_zero, List.set_cons_succ, i64_w, i32_w]
      rfl
    }
    refine pure_ (i := 13) (N := some 21) (v := ?_) (a' := ?_) (m25 12566527) rfl rfl (any_of HT_.out (by kernel_rfl)) (fun _ _ _ h => h) (Or.inl ⟨by rfl, ?_⟩) ?_ ?_
    rotate_left
    {
      intro w'
      go_simp
      with_reducible rfl
    }
    rotate_left
    {
      simp only [Act.put, List.setIfInBounds_toArray, List.set_cons_zero, List.set_cons_succ, i64_w, i32_w]
      rfl
    }
    exact nrm_ (ad (g5, aa, ab, Ad, cd) _ ⟨(S.made hb), (X.made hb), ho, (Kd.R_below D hb)⟩)
  · clear S
    rintro ⟨g5, aa, ab, Ad, cd⟩ bI ⟨S, X, L⟩
    refine norm_ (a' := ?_) ?_ ?_
    rotate_left
    {
      simp only [putAll, Act.put, List.setIfInBounds_toArray, List.set_cons_zero, List.set_cons_succ]
      rfl
    }
    refine two_ (i := 14) (j := 21) (Ni := some 22) (Nj := some 29) (m25 10485759) (m25 12566527) rfl rfl rfl rfl (two_of HT_.out (by kernel_rfl)) (by decide) (by decide) (fun K hK => ?_) (fun K hK => ?_)
    · skip
      obtain ⟨aq, eq_, hx⟩ := Kd.at_int (Kd.R_reads' L).2.2 n5 HN5.out (by rw [HFN.out]; exact HN8.out)
      obtain rfl : aa = aq := (by injection eq_)
      clear eq_
      refine value_ (w1 := ?_) (v := ?_) (by rfl) rfl ?_ ?_
      rotate_left 2
      {
        go_simp
        constructor
        rfl
        rfl
      }
      clear hx
      refine hK.out _ _ trivial (fun _ => ?_)
      clear hK K
      refine norm_ (a' := ?_) ?_ ?_
      rotate_left
      {
        show Act.put _ (some 22) _ = _
        simp only [Act.put, List.setIfInBounds_toArray, List.set_cons_zero, List.set_cons_succ, i64_w, i32_w]
        rfl
      }
      exact nrm_ (ae (g5, aa, ab, none, 0) _ ⟨S, X⟩)
    · skip
      refine goes_ Try.func54 (by kernel_rfl) rfl #[.pointer (some ⟨g, 0, none⟩), .int .i64 n7] (by rfl) rfl rfl wT ?_
      with_reducible refine (spec_l01Bytes.calls k g c p7 t7 n7 dl p8 t8 w0 _ S.i S.b E8.out).mono ?_
      rintro e bJ ⟨vd, rfl, ho, hi, hb, hk⟩
      refine ⟨_, rfl, ?_⟩
      replace ho := Kd.R_lower ho (keep_size S.2.2.1)
      obtain ⟨Ad, cd, ed⟩ := Kd.R_slice ho
      subst ed
      refine hK.out _ _ trivial (fun _ => ?_)
      clear hK K
      refine norm_ (a' := ?_) ?_ ?_
      rotate_left
      {
        show Act.put _ (some 29) _ = _
        simp only [Act.put, List.setIfInBounds_toArray, List.set_cons_zero, List.set_cons_succ, i64_w, i32_w]
        rfl
      }
      exact nrm_ (ad (g5, aa, ab, Ad, cd) _ ⟨(S.call N4.out hi hb hk), (X.call hk), (row_call S L (by decide) hk), ho⟩)
  · clear S
    rintro ⟨g5, aa, ab, Ad, cd⟩ bK ⟨S, L, D⟩
    refine norm_ (a' := ?_) ?_ ?_
    rotate_left
    {
      simp only [putAll, Act.put, List.setIfInBounds_toArray, List.set_cons_zero, List.set_cons_succ]
      rfl
    }
    refine two_ (i := 14) (j := 23) (Ni := some 22) (Nj := some 5) (m25 4194303) (m25 12566527) rfl rfl rfl rfl (two_of HT_.out (by kernel_rfl)) (by decide) (by decide) (fun K hK => ?_) (fun K hK => ?_)
    · skip
      obtain ⟨aq, eq_, hx⟩ := Kd.at_int (Kd.R_reads' L).2.2 n5 HN5.out (by rw [HFN.out]; exact HN8.out)
      obtain rfl : aa = aq := (by injection eq_)
      clear eq_
      refine value_ (w1 := ?_) (v := ?_) (by rfl) rfl ?_ ?_
      rotate_left 2
      {
        go_simp
        constructor
        rfl
        rfl
      }
      clear hx
      refine hK.out _ _ trivial (fun _ => ?_)
      clear hK K
      refine norm_ (a' := ?_) ?_ ?_
      rotate_left
      {
        show Act.put _ (some 22) _ = _
        simp only [Act.put, List.setIfInBounds_toArray, List.set_cons_zero, List.set_cons_succ, i64_w, i32_w]
        rfl
      }
      refine pure_ (i := 22) (N := some 30) (v := ?_) (a' := ?_) (m25 8388607) rfl rfl (any_of HT_.out (by kernel_rfl)) (fun _ _ _ h => h) (Or.inl ⟨by rfl, ?_⟩) ?_ ?_
      rotate_left
      {
        intro w'
        go_simp
        with_reducible rfl
      }
      rotate_left
      {
        simp only [Act.put, List.setIfInBounds_toArray, List.set_cons_zero, List.set_cons_succ, i64_w, i32_w]
        rfl
      }
      exact nrm_ (ai (0, aa, ab, Ad, cd) _ ⟨S, D⟩)
    · skip
      refine box_step ?hg (N := 5) ?hd (cs := #[.int .i64 0, .int .i64 0, .int .i64 0, .int .i64 0, .int .i64 0, .int .i64 0, .int .i64 0, .bool false, .int .i64 0, .bool false, .slice none 0 0, .slice none 0 0]) (t := 25) ?hr ?_; (case hd => rfl); (case hg => rfl); (case hr => first | (go_simp; done) | (go_simp; rfl))
      intro g5 hg bL hbox hb
      have hg_ := Aside0.mk hg
      clear hg
      refine hK.out _ _ trivial (fun _ => ?_)
      clear hK K
      refine norm_ (a' := ?_) ?_ ?_
      rotate_left
      {
        show Act.put _ (some 5) _ = _
        simp only [Act.put, List.setIfInBounds_toArray, List.set_cons_zero, List.set_cons_succ, i64_w, i32_w]
        rfl
      }
      exact nrm_ (ad (g5, aa, ab, Ad, cd) _ ⟨(S.made hb), (spec_l11Draw.Bx_new S HW0.out hg_.out hbox), (Kd.R_below L hb), (Kd.R_below D hb)⟩)
  · clear S
    rintro ⟨g5, aa, ab, Ad, cd⟩ bM ⟨S, X⟩
    refine norm_ (a' := ?_) ?_ ?_
    rotate_left
    {
      simp only [putAll, Act.put, List.setIfInBounds_toArray, List.set_cons_zero, List.set_cons_succ]
      rfl
    }
    refine one_ (i := 20) (N := some 28) (m25 10485759) rfl rfl (one_of HT_.out (by kernel_rfl)) (by decide) (fun K hK => ?_)
    refine goes_ Try.func40 (by kernel_rfl) rfl #[.pointer (some ⟨g, 0, none⟩), .int .i64 most] (by rfl) rfl rfl wT ?_
    with_reducible refine (spec_l01Next.calls g c p6 t6 most n7 p7 t7 w0 _ S.i S.b E7.out).mono ?_
    rintro e bN ⟨rfl, hi, hb, hk⟩
    refine ⟨_, rfl, ?_⟩
    refine hK.out _ _ trivial (fun _ => ?_)
    clear hK K
    refine norm_ (a' := ?_) ?_ ?_
    rotate_left
    {
      show Act.put _ (some 28) _ = _
      simp only [Act.put, List.setIfInBounds_toArray, List.set_cons_zero, List.set_cons_succ, i64_w, i32_w]
      rfl
    }
    exact nrm_ (ae (g5, aa, ab, none, 0) _ ⟨(S.call N4.out hi hb hk), (X.call hk)⟩)
  · clear S
    rintro ⟨g5, aa, ab, Ad, cd⟩ bO S
    refine norm_ (a' := ?_) ?_ ?_
    rotate_left
    {
      simp only [putAll, Act.put, List.setIfInBounds_toArray, List.set_cons_zero, List.set_cons_succ]
      rfl
    }
    refine two_ (i := 21) (j := 23) (Ni := some 29) (Nj := some 5) (m25 4194303) (m25 10485759) rfl rfl rfl rfl (two_of HT_.out (by kernel_rfl)) (by decide) (by decide) (fun K hK => ?_) (fun K hK => ?_)
    · skip
      refine goes_ Try.func54 (by kernel_rfl) rfl #[.pointer (some ⟨g, 0, none⟩), .int .i64 n7] (by rfl) rfl rfl wT ?_
      with_reducible refine (spec_l01Bytes.calls k g c p7 t7 n7 dl p8 t8 w0 _ S.i S.b E8.out).mono ?_
      rintro e bP ⟨vd, rfl, ho, hi, hb, hk⟩
      refine ⟨_, rfl, ?_⟩
      replace ho := Kd.R_lower ho (keep_size S.2.2.1)
      obtain ⟨Ad, cd, ed⟩ := Kd.R_slice ho
      subst ed
      refine hK.out _ _ trivial (fun _ => ?_)
      clear hK K
      refine norm_ (a' := ?_) ?_ ?_
      rotate_left
      {
        show Act.put _ (some 29) _ = _
        simp only [Act.put, List.setIfInBounds_toArray, List.set_cons_zero, List.set_cons_succ, i64_w, i32_w]
        rfl
      }
      refine pure_ (i := 22) (N := some 30) (v := ?_) (a' := ?_) (m25 8388607) rfl rfl (any_of HT_.out (by kernel_rfl)) (fun _ _ _ h => h) (Or.inl ⟨by rfl, ?_⟩) ?_ ?_
      rotate_left
      {
        intro w'
        go_simp
        with_reducible rfl
      }
      rotate_left
      {
        simp only [Act.put, List.setIfInBounds_toArray, List.set_cons_zero, List.set_cons_succ, i64_w, i32_w]
        rfl
      }
      exact nrm_ (ai (0, aa, ab, Ad, cd) _ ⟨(S.call N4.out hi hb hk), ho⟩)
    · skip
      refine box_step ?hg (N := 5) ?hd (cs := #[.int .i64 0, .int .i64 0, .int .i64 0, .int .i64 0, .int .i64 0, .int .i64 0, .int .i64 0, .bool false, .int .i64 0, .bool false, .slice none 0 0, .slice none 0 0]) (t := 25) ?hr ?_; (case hd => rfl); (case hg => rfl); (case hr => first | (go_simp; done) | (go_simp; rfl))
      intro g5 hg bQ hbox hb
      have hg_ := Aside0.mk hg
      clear hg
      refine hK.out _ _ trivial (fun _ => ?_)
      clear hK K
      refine norm_ (a' := ?_) ?_ ?_
      rotate_left
      {
        show Act.put _ (some 5) _ = _
        simp only [Act.put, List.setIfInBounds_toArray, List.set_cons_zero, List.set_cons_succ, i64_w, i32_w]
        rfl
      }
      exact nrm_ (ae (g5, aa, ab, none, 0) _ ⟨(S.made hb), (spec_l11Draw.Bx_new S HW0.out hg_.out hbox)⟩)
  · clear S
    rintro ⟨g5, aa, ab, Ad, cd⟩ bR ⟨S, X⟩
    refine norm_ (a' := ?_) ?_ ?_
    rotate_left
    {
      simp only [putAll, Act.put, List.setIfInBounds_toArray, List.set_cons_zero, List.set_cons_succ]
      rfl
    }
    refine two_ (i := 10) (j := 21) (Ni := some 18) (Nj := some 29) (m25 10461183) (m25 12557311) rfl rfl rfl rfl (two_of HT_.out (by kernel_rfl)) (by decide) (by decide) (fun K hK => ?_) (fun K hK => ?_)
    · skip
      refine Kd.R_lit_step (Kd.int .i64) _ 2 ?hg (N := 18) ?hd (xs := ([2, 18, 16, 24, 17, 4, 20, 0] : List Int)) (inner := [.int .i64 2, .int .i64 18, .int .i64 16, .int .i64 24, .int .i64 17, .int .i64 4, .int .i64 20, .int .i64 0]) (ok := fun _ => True) (okp := fun _ => True) ?hr (spec_l11Draw.lit _ _ _) (fun _ hk => hk) trivial (Below.refl _ _) (Nat.le_refl _) (by simp) ?_; (case hd => rfl); (case hg => rfl); (case hr => first | (go_simp; done) | (go_simp; rfl))
      intro ax bS ho hb _ _
      rw [← HFL.out] at ho
      replace ho := Kd.R_lower ho (keep_size S.2.2.1)
      obtain ⟨Al, ab, el⟩ := Kd.R_slice ho
      subst el
      obtain ⟨aa, fo, _⟩ := Kd.at_int (Kd.R_reads' ho).2.2 0 (by decide) (by rw [HFN.out]; decide)
      subst fo
      refine hK.out _ _ trivial (fun _ => ?_)
      clear hK K
      refine norm_ (a' := ?_) ?_ ?_
      rotate_left
      {
        show Act.put _ (some 18) _ = _
        simp only [Act.put, List.setIfInBounds_toArray, List.set_cons_zero, List.set_cons_succ, i64_w, i32_w]
        rfl
      }
      refine pure_ (i := 13) (N := some 21) (v := ?_) (a' := ?_) (m25 10469375) rfl rfl (any_of HT_.out (by kernel_rfl)) (fun _ _ _ h => h) (Or.inl ⟨by rfl, ?_⟩) ?_ ?_
      rotate_left
      {
        intro w'
        go_simp
        with_reducible rfl
      }
      rotate_left
      {
        simp only [Act.put, List.setIfInBounds_toArray, List.set_cons_zero, List.set_cons_succ, i64_w, i32_w]
        rfl
      }
      exact nrm_ (af (g5, aa, ab, none, 0) _ ⟨(S.made hb), (X.made hb), ho⟩)
    · skip
      refine goes_ Try.func54 (by kernel_rfl) rfl #[.pointer (some ⟨g, 0, none⟩), .int .i64 n7] (by rfl) rfl rfl wT ?_
      with_reducible refine (spec_l01Bytes.calls k g c p7 t7 n7 dl p8 t8 w0 _ S.i S.b E8.out).mono ?_
      rintro e bT ⟨vd, rfl, ho, hi, hb, hk⟩
      refine ⟨_, rfl, ?_⟩
      replace ho := Kd.R_lower ho (keep_size S.2.2.1)
      obtain ⟨Ad, cd, ed⟩ := Kd.R_slice ho
      subst ed
      refine hK.out _ _ trivial (fun _ => ?_)
      clear hK K
      refine norm_ (a' := ?_) ?_ ?_
      rotate_left
      {
        show Act.put _ (some 29) _ = _
        simp only [Act.put, List.setIfInBounds_toArray, List.set_cons_zero, List.set_cons_succ, i64_w, i32_w]
        rfl
      }
      exact nrm_ (aj (g5, ⟨0, 0, none⟩, 0, Ad, cd) _ ⟨(S.call N4.out hi hb hk), (X.call hk), ho⟩)
  · clear S
    rintro ⟨g5, aa, ab, Ad, cd⟩ bU ⟨S, D⟩
    refine norm_ (a' := ?_) ?_ ?_
    rotate_left
    {
      simp only [putAll, Act.put, List.setIfInBounds_toArray, List.set_cons_zero, List.set_cons_succ]
      rfl
    }
    refine two_ (i := 10) (j := 23) (Ni := some 18) (Nj := some 5) (m25 4169727) (m25 12557311) rfl rfl rfl rfl (two_of HT_.out (by kernel_rfl)) (by decide) (by decide) (fun K hK => ?_) (fun K hK => ?_)
    · skip
      refine Kd.R_lit_step (Kd.int .i64) _ 2 ?hg (N := 18) ?hd (xs := ([2, 18, 16, 24, 17, 4, 20, 0] : List Int)) (inner := [.int .i64 2, .int .i64 18, .int .i64 16, .int .i64 24, .int .i64 17, .int .i64 4, .int .i64 20, .int .i64 0]) (ok := fun _ => True) (okp := fun _ => True) ?hr (spec_l11Draw.lit _ _ _) (fun _ hk => hk) trivial (Below.refl _ _) (Nat.le_refl _) (by simp) ?_; (case hd => rfl); (case hg => rfl); (case hr => first | (go_simp; done) | (go_simp; rfl))
      intro ax bV ho hb _ _
      rw [← HFL.out] at ho
      replace ho := Kd.R_lower ho (keep_size S.2.2.1)
      obtain ⟨Al, ab, el⟩ := Kd.R_slice ho
      subst el
      obtain ⟨aa, fo, _⟩ := Kd.at_int (Kd.R_reads' ho).2.2 0 (by decide) (by rw [HFN.out]; decide)
      subst fo
      refine hK.out _ _ trivial (fun _ => ?_)
      clear hK K
      refine norm_ (a' := ?_) ?_ ?_
      rotate_left
      {
        show Act.put _ (some 18) _ = _
        simp only [Act.put, List.setIfInBounds_toArray, List.set_cons_zero, List.set_cons_succ, i64_w, i32_w]
        rfl
      }
      refine pure_ (i := 13) (N := some 21) (v := ?_) (a' := ?_) (m25 4177919) rfl rfl (any_of HT_.out (by kernel_rfl)) (fun _ _ _ h => h) (Or.inl ⟨by rfl, ?_⟩) ?_ ?_
      rotate_left
      {
        intro w'
        go_simp
        with_reducible rfl
      }
      rotate_left
      {
        simp only [Act.put, List.setIfInBounds_toArray, List.set_cons_zero, List.set_cons_succ, i64_w, i32_w]
        rfl
      }
      exact nrm_ (ak (0, aa, ab, Ad, cd) _ ⟨(S.made hb), ho, (Kd.R_below D hb)⟩)
    · skip
      refine box_step ?hg (N := 5) ?hd (cs := #[.int .i64 0, .int .i64 0, .int .i64 0, .int .i64 0, .int .i64 0, .int .i64 0, .int .i64 0, .bool false, .int .i64 0, .bool false, .slice none 0 0, .slice none 0 0]) (t := 25) ?hr ?_; (case hd => rfl); (case hg => rfl); (case hr => first | (go_simp; done) | (go_simp; rfl))
      intro g5 hg bW hbox hb
      have hg_ := Aside0.mk hg
      clear hg
      refine hK.out _ _ trivial (fun _ => ?_)
      clear hK K
      refine norm_ (a' := ?_) ?_ ?_
      rotate_left
      {
        show Act.put _ (some 5) _ = _
        simp only [Act.put, List.setIfInBounds_toArray, List.set_cons_zero, List.set_cons_succ, i64_w, i32_w]
        rfl
      }
      exact nrm_ (aj (g5, ⟨0, 0, none⟩, 0, Ad, cd) _ ⟨(S.made hb), (spec_l11Draw.Bx_new S HW0.out hg_.out hbox), (Kd.R_below D hb)⟩)
  · clear S
    rintro ⟨g5, aa, ab, Ad, cd⟩ bX ⟨S, X, L⟩
    refine norm_ (a' := ?_) ?_ ?_
    rotate_left
    {
      simp only [putAll, Act.put, List.setIfInBounds_toArray, List.set_cons_zero, List.set_cons_succ]
      rfl
    }
    refine two_ (i := 14) (j := 20) (Ni := some 22) (Nj := some 28) (m25 9437183) (m25 10469375) rfl rfl rfl rfl (two_of HT_.out (by kernel_rfl)) (by decide) (by decide) (fun K hK => ?_) (fun K hK => ?_)
    · skip
      obtain ⟨aq, eq_, hx⟩ := Kd.at_int (Kd.R_reads' L).2.2 n5 HN5.out (by rw [HFN.out]; exact HN8.out)
      obtain rfl : aa = aq := (by injection eq_)
      clear eq_
      refine value_ (w1 := ?_) (v := ?_) (by rfl) rfl ?_ ?_
      rotate_left 2
      {
        go_simp
        constructor
        rfl
        rfl
      }
      clear hx
      refine hK.out _ _ trivial (fun _ => ?_)
      clear hK K
      refine norm_ (a' := ?_) ?_ ?_
      rotate_left
      {
        show Act.put _ (some 22) _ = _
        simp only [Act.put, List.setIfInBounds_toArray, List.set_cons_zero, List.set_cons_succ, i64_w, i32_w]
        rfl
      }
      exact nrm_ (ag (g5, aa, ab, none, 0) _ ⟨S, X⟩)
    · skip
      refine goes_ Try.func40 (by kernel_rfl) rfl #[.pointer (some ⟨g, 0, none⟩), .int .i64 most] (by rfl) rfl rfl wT ?_
      with_reducible refine (spec_l01Next.calls g c p6 t6 most n7 p7 t7 w0 _ S.i S.b E7.out).mono ?_
      rintro e bY ⟨rfl, hi, hb, hk⟩
      refine ⟨_, rfl, ?_⟩
      refine hK.out _ _ trivial (fun _ => ?_)
      clear hK K
      refine norm_ (a' := ?_) ?_ ?_
      rotate_left
      {
        show Act.put _ (some 28) _ = _
        simp only [Act.put, List.setIfInBounds_toArray, List.set_cons_zero, List.set_cons_succ, i64_w, i32_w]
        rfl
      }
      exact nrm_ (af (g5, aa, ab, none, 0) _ ⟨(S.call N4.out hi hb hk), (X.call hk), (row_call S L (by decide) hk)⟩)
  · clear S
    rintro ⟨g5, aa, ab, Ad, cd⟩ bZ ⟨S, L⟩
    refine norm_ (a' := ?_) ?_ ?_
    rotate_left
    {
      simp only [putAll, Act.put, List.setIfInBounds_toArray, List.set_cons_zero, List.set_cons_succ]
      rfl
    }
    refine three_ (i := 14) (j := 21) (k := 23) (Ni := some 22) (Nj := some 29) (Nk := some 5) (m25 2097151) (m25 4177919) (m25 10469375) rfl rfl rfl rfl rfl rfl (three_of HT_.out (by kernel_rfl)) (by decide) (by decide) (by decide) (fun K hK => ?_) (fun K hK => ?_) (fun K hK => ?_)
    · skip
      obtain ⟨aq, eq_, hx⟩ := Kd.at_int (Kd.R_reads' L).2.2 n5 HN5.out (by rw [HFN.out]; exact HN8.out)
      obtain rfl : aa = aq := (by injection eq_)
      clear eq_
      refine value_ (w1 := ?_) (v := ?_) (by rfl) rfl ?_ ?_
      rotate_left 2
      {
        go_simp
        constructor
        rfl
        rfl
      }
      clear hx
      refine hK.out _ _ trivial (fun _ => ?_)
      clear hK K
      refine norm_ (a' := ?_) ?_ ?_
      rotate_left
      {
        show Act.put _ (some 22) _ = _
        simp only [Act.put, List.setIfInBounds_toArray, List.set_cons_zero, List.set_cons_succ, i64_w, i32_w]
        rfl
      }
      exact nrm_ (al (0, aa, ab, none, 0) _ S)
    · skip
      refine goes_ Try.func54 (by kernel_rfl) rfl #[.pointer (some ⟨g, 0, none⟩), .int .i64 n7] (by rfl) rfl rfl wT ?_
      with_reducible refine (spec_l01Bytes.calls k g c p7 t7 n7 dl p8 t8 w0 _ S.i S.b E8.out).mono ?_
      rintro e b0 ⟨vd, rfl, ho, hi, hb, hk⟩
      refine ⟨_, rfl, ?_⟩
      replace ho := Kd.R_lower ho (keep_size S.2.2.1)
      obtain ⟨Ad, cd, ed⟩ := Kd.R_slice ho
      subst ed
      refine hK.out _ _ trivial (fun _ => ?_)
      clear hK K
      refine norm_ (a' := ?_) ?_ ?_
      rotate_left
      {
        show Act.put _ (some 29) _ = _
        simp only [Act.put, List.setIfInBounds_toArray, List.set_cons_zero, List.set_cons_succ, i64_w, i32_w]
        rfl
      }
      exact nrm_ (ak (0, aa, ab, Ad, cd) _ ⟨(S.call N4.out hi hb hk), (row_call S L (by decide) hk), ho⟩)
    · skip
      refine box_step ?hg (N := 5) ?hd (cs := #[.int .i64 0, .int .i64 0, .int .i64 0, .int .i64 0, .int .i64 0, .int .i64 0, .int .i64 0, .bool false, .int .i64 0, .bool false, .slice none 0 0, .slice none 0 0]) (t := 25) ?hr ?_; (case hd => rfl); (case hg => rfl); (case hr => first | (go_simp; done) | (go_simp; rfl))
      intro g5 hg b3 hbox hb
      have hg_ := Aside0.mk hg
      clear hg
      refine hK.out _ _ trivial (fun _ => ?_)
      clear hK K
      refine norm_ (a' := ?_) ?_ ?_
      rotate_left
      {
        show Act.put _ (some 5) _ = _
        simp only [Act.put, List.setIfInBounds_toArray, List.set_cons_zero, List.set_cons_succ, i64_w, i32_w]
        rfl
      }
      exact nrm_ (af (g5, aa, ab, none, 0) _ ⟨(S.made hb), (spec_l11Draw.Bx_new S HW0.out hg_.out hbox), (Kd.R_below L hb)⟩)
  · clear S
    rintro ⟨g5, aa, ab, Ad, cd⟩ b4 ⟨S, X⟩
    refine norm_ (a' := ?_) ?_ ?_
    rotate_left
    {
      simp only [putAll, Act.put, List.setIfInBounds_toArray, List.set_cons_zero, List.set_cons_succ]
      rfl
    }
    refine one_ (i := 16) (N := some 24) (m25 9437183) rfl rfl (one_of HT_.out (by kernel_rfl)) (by decide) (fun K hK => ?_)
    refine goes_ Try.func40 (by kernel_rfl) rfl #[.pointer (some ⟨g, 0, none⟩), .int .i64 65536] (by rfl) rfl rfl wT ?_
    with_reducible refine (spec_l01Next.calls g c p5 t5 65536 n6 p6 t6 w0 _ S.i S.b E6.out).mono ?_
    rintro e b5 ⟨rfl, hi, hb, hk⟩
    refine ⟨_, rfl, ?_⟩
    refine hK.out _ _ trivial (fun _ => ?_)
    clear hK K
    refine norm_ (a' := ?_) ?_ ?_
    rotate_left
    {
      show Act.put _ (some 24) _ = _
      simp only [Act.put, List.setIfInBounds_toArray, List.set_cons_zero, List.set_cons_succ, i64_w, i32_w]
      rfl
    }
    exact nrm_ (ag (g5, aa, ab, none, 0) _ ⟨(S.call N4.out hi hb hk), (X.call hk)⟩)
  · clear S
    rintro ⟨g5, aa, ab, Ad, cd⟩ b6 S
    refine norm_ (a' := ?_) ?_ ?_
    rotate_left
    {
      simp only [putAll, Act.put, List.setIfInBounds_toArray, List.set_cons_zero, List.set_cons_succ]
      rfl
    }
    refine two_ (i := 20) (j := 23) (Ni := some 28) (Nj := some 5) (m25 2097151) (m25 9437183) rfl rfl rfl rfl (two_of HT_.out (by kernel_rfl)) (by decide) (by decide) (fun K hK => ?_) (fun K hK => ?_)
    · skip
      refine goes_ Try.func40 (by kernel_rfl) rfl #[.pointer (some ⟨g, 0, none⟩), .int .i64 most] (by rfl) rfl rfl wT ?_
      with_reducible refine (spec_l01Next.calls g c p6 t6 most n7 p7 t7 w0 _ S.i S.b E7.out).mono ?_
      rintro e b7 ⟨rfl, hi, hb, hk⟩
      refine ⟨_, rfl, ?_⟩
      refine hK.out _ _ trivial (fun _ => ?_)
      clear hK K
      refine norm_ (a' := ?_) ?_ ?_
      rotate_left
      {
        show Act.put _ (some 28) _ = _
        simp only [Act.put, List.setIfInBounds_toArray, List.set_cons_zero, List.set_cons_succ, i64_w, i32_w]
        rfl
      }
      exact nrm_ (al (0, aa, ab, none, 0) _ (S.call N4.out hi hb hk))
    · skip
      refine box_step ?hg (N := 5) ?hd (cs := #[.int .i64 0, .int .i64 0, .int .i64 0, .int .i64 0, .int .i64 0, .int .i64 0, .int .i64 0, .bool false, .int .i64 0, .bool false, .slice none 0 0, .slice none 0 0]) (t := 25) ?hr ?_; (case hd => rfl); (case hg => rfl); (case hr => first | (go_simp; done) | (go_simp; rfl))
      intro g5 hg b8 hbox hb
      have hg_ := Aside0.mk hg
      clear hg
      refine hK.out _ _ trivial (fun _ => ?_)
      clear hK K
      refine norm_ (a' := ?_) ?_ ?_
      rotate_left
      {
        show Act.put _ (some 5) _ = _
        simp only [Act.put, List.setIfInBounds_toArray, List.set_cons_zero, List.set_cons_succ, i64_w, i32_w]
        rfl
      }
      exact nrm_ (ag (g5, aa, ab, none, 0) _ ⟨(S.made hb), (spec_l11Draw.Bx_new S HW0.out hg_.out hbox)⟩)
  · clear S
    rintro ⟨g5, aa, ab, Ad, cd⟩ b9 ⟨S, X⟩
    refine norm_ (a' := ?_) ?_ ?_
    rotate_left
    {
      simp only [putAll, Act.put, List.setIfInBounds_toArray, List.set_cons_zero, List.set_cons_succ]
      rfl
    }
    refine two_ (i := 10) (j := 20) (Ni := some 18) (Nj := some 28) (m25 9412607) (m25 10460159) rfl rfl rfl rfl (two_of HT_.out (by kernel_rfl)) (by decide) (by decide) (fun K hK => ?_) (fun K hK => ?_)
    · skip
      refine Kd.R_lit_step (Kd.int .i64) _ 2 ?hg (N := 18) ?hd (xs := ([2, 18, 16, 24, 17, 4, 20, 0] : List Int)) (inner := [.int .i64 2, .int .i64 18, .int .i64 16, .int .i64 24, .int .i64 17, .int .i64 4, .int .i64 20, .int .i64 0]) (ok := fun _ => True) (okp := fun _ => True) ?hr (spec_l11Draw.lit _ _ _) (fun _ hk => hk) trivial (Below.refl _ _) (Nat.le_refl _) (by simp) ?_; (case hd => rfl); (case hg => rfl); (case hr => first | (go_simp; done) | (go_simp; rfl))
      intro ax ca ho hb _ _
      rw [← HFL.out] at ho
      replace ho := Kd.R_lower ho (keep_size S.2.2.1)
      obtain ⟨Al, ab, el⟩ := Kd.R_slice ho
      subst el
      obtain ⟨aa, fo, _⟩ := Kd.at_int (Kd.R_reads' ho).2.2 0 (by decide) (by rw [HFN.out]; decide)
      subst fo
      refine hK.out _ _ trivial (fun _ => ?_)
      clear hK K
      refine norm_ (a' := ?_) ?_ ?_
      rotate_left
      {
        show Act.put _ (some 18) _ = _
        simp only [Act.put, List.setIfInBounds_toArray, List.set_cons_zero, List.set_cons_succ, i64_w, i32_w]
        rfl
      }
      refine pure_ (i := 13) (N := some 21) (v := ?_) (a' := ?_) (m25 9420799) rfl rfl (any_of HT_.out (by kernel_rfl)) (fun _ _ _ h => h) (Or.inl ⟨by rfl, ?_⟩) ?_ ?_
      rotate_left
      {
        intro w'
        go_simp
        with_reducible rfl
      }
      rotate_left
      {
        simp only [Act.put, List.setIfInBounds_toArray, List.set_cons_zero, List.set_cons_succ, i64_w, i32_w]
        rfl
      }
      exact nrm_ (ah (g5, aa, ab, none, 0) _ ⟨(S.made hb), (X.made hb), ho⟩)
    · skip
      refine goes_ Try.func40 (by kernel_rfl) rfl #[.pointer (some ⟨g, 0, none⟩), .int .i64 most] (by rfl) rfl rfl wT ?_
      with_reducible refine (spec_l01Next.calls g c p6 t6 most n7 p7 t7 w0 _ S.i S.b E7.out).mono ?_
      rintro e cb ⟨rfl, hi, hb, hk⟩
      refine ⟨_, rfl, ?_⟩
      refine hK.out _ _ trivial (fun _ => ?_)
      clear hK K
      refine norm_ (a' := ?_) ?_ ?_
      rotate_left
      {
        show Act.put _ (some 28) _ = _
        simp only [Act.put, List.setIfInBounds_toArray, List.set_cons_zero, List.set_cons_succ, i64_w, i32_w]
        rfl
      }
      exact nrm_ (an (g5, ⟨0, 0, none⟩, 0, none, 0) _ ⟨(S.call N4.out hi hb hk), (X.call hk)⟩)
  · clear S
    rintro ⟨g5, aa, ab, Ad, cd⟩ cc S
    refine norm_ (a' := ?_) ?_ ?_
    rotate_left
    {
      simp only [putAll, Act.put, List.setIfInBounds_toArray, List.set_cons_zero, List.set_cons_succ]
      rfl
    }
    refine three_ (i := 10) (j := 21) (k := 23) (Ni := some 18) (Nj := some 29) (Nk := some 5) (m25 2072575) (m25 4168703) (m25 10460159) rfl rfl rfl rfl rfl rfl (three_of HT_.out (by kernel_rfl)) (by decide) (by decide) (by decide) (fun K hK => ?_) (fun K hK => ?_) (fun K hK => ?_)
    · skip
      refine Kd.R_lit_step (Kd.int .i64) _ 2 ?hg (N := 18) ?hd (xs := ([2, 18, 16, 24, 17, 4, 20, 0] : List Int)) (inner := [.int .i64 2, .int .i64 18, .int .i64 16, .int .i64 24, .int .i64 17, .int .i64 4, .int .i64 20, .int .i64 0]) (ok := fun _ => True) (okp := fun _ => True) ?hr (spec_l11Draw.lit _ _ _) (fun _ hk => hk) trivial (Below.refl _ _) (Nat.le_refl _) (by simp) ?_; (case hd => rfl); (case hg => rfl); (case hr => first | (go_simp; done) | (go_simp; rfl))
      intro ax ce ho hb _ _
      rw [← HFL.out] at ho
      replace ho := Kd.R_lower ho (keep_size S.2.2.1)
      obtain ⟨Al, ab, el⟩ := Kd.R_slice ho
      subst el
      obtain ⟨aa, fo, _⟩ := Kd.at_int (Kd.R_reads' ho).2.2 0 (by decide) (by rw [HFN.out]; decide)
      subst fo
      refine hK.out _ _ trivial (fun _ => ?_)
      clear hK K
      refine norm_ (a' := ?_) ?_ ?_
      rotate_left
      {
        show Act.put _ (some 18) _ = _
        simp only [Act.put, List.setIfInBounds_toArray, List.set_cons_zero, List.set_cons_succ, i64_w, i32_w]
        rfl
      }
      refine pure_ (i := 13) (N := some 21) (v := ?_) (a' := ?_) (m25 2080767) rfl rfl (any_of HT_.out (by kernel_rfl)) (fun _ _ _ h => h) (Or.inl ⟨by rfl, ?_⟩) ?_ ?_
      rotate_left
      {
        intro w'
        go_simp
        with_reducible rfl
      }
      rotate_left
      {
        simp only [Act.put, List.setIfInBounds_toArray, List.set_cons_zero, List.set_cons_succ, i64_w, i32_w]
        rfl
      }
      exact nrm_ (ao (0, aa, ab, none, 0) _ ⟨(S.made hb), ho⟩)
    · skip
      refine goes_ Try.func54 (by kernel_rfl) rfl #[.pointer (some ⟨g, 0, none⟩), .int .i64 n7] (by rfl) rfl rfl wT ?_
      with_reducible refine (spec_l01Bytes.calls k g c p7 t7 n7 dl p8 t8 w0 _ S.i S.b E8.out).mono ?_
      rintro e cf ⟨vd, rfl, ho, hi, hb, hk⟩
      refine ⟨_, rfl, ?_⟩
      replace ho := Kd.R_lower ho (keep_size S.2.2.1)
      obtain ⟨Ad, cd, ed⟩ := Kd.R_slice ho
      subst ed
      refine hK.out _ _ trivial (fun _ => ?_)
      clear hK K
      refine norm_ (a' := ?_) ?_ ?_
      rotate_left
      {
        show Act.put _ (some 29) _ = _
        simp only [Act.put, List.setIfInBounds_toArray, List.set_cons_zero, List.set_cons_succ, i64_w, i32_w]
        rfl
      }
      exact nrm_ (aC (0, ⟨0, 0, none⟩, 0, Ad, cd) _ ⟨(S.call N4.out hi hb hk), ho⟩)
    · skip
      refine box_step ?hg (N := 5) ?hd (cs := #[.int .i64 0, .int .i64 0, .int .i64 0, .int .i64 0, .int .i64 0, .int .i64 0, .int .i64 0, .bool false, .int .i64 0, .bool false, .slice none 0 0, .slice none 0 0]) (t := 25) ?hr ?_; (case hd => rfl); (case hg => rfl); (case hr => first | (go_simp; done) | (go_simp; rfl))
      intro g5 hg cg hbox hb
      have hg_ := Aside0.mk hg
      clear hg
      refine hK.out _ _ trivial (fun _ => ?_)
      clear hK K
      refine norm_ (a' := ?_) ?_ ?_
      rotate_left
      {
        show Act.put _ (some 5) _ = _
        simp only [Act.put, List.setIfInBounds_toArray, List.set_cons_zero, List.set_cons_succ, i64_w, i32_w]
        rfl
      }
      exact nrm_ (an (g5, ⟨0, 0, none⟩, 0, none, 0) _ ⟨(S.made hb), (spec_l11Draw.Bx_new S HW0.out hg_.out hbox)⟩)
  · clear S
    rintro ⟨g5, aa, ab, Ad, cd⟩ ch ⟨S, X, L⟩
    refine norm_ (a' := ?_) ?_ ?_
    rotate_left
    {
      simp only [putAll, Act.put, List.setIfInBounds_toArray, List.set_cons_zero, List.set_cons_succ]
      rfl
    }
    refine two_ (i := 14) (j := 16) (Ni := some 22) (Nj := some 24) (m25 9371647) (m25 9420799) rfl rfl rfl rfl (two_of HT_.out (by kernel_rfl)) (by decide) (by decide) (fun K hK => ?_) (fun K hK => ?_)
    · skip
      obtain ⟨aq, eq_, hx⟩ := Kd.at_int (Kd.R_reads' L).2.2 n5 HN5.out (by rw [HFN.out]; exact HN8.out)
      obtain rfl : aa = aq := (by injection eq_)
      clear eq_
      refine value_ (w1 := ?_) (v := ?_) (by rfl) rfl ?_ ?_
      rotate_left 2
      {
        go_simp
        constructor
        rfl
        rfl
      }
      clear hx
      refine hK.out _ _ trivial (fun _ => ?_)
      clear hK K
      refine norm_ (a' := ?_) ?_ ?_
      rotate_left
      {
        show Act.put _ (some 22) _ = _
        simp only [Act.put, List.setIfInBounds_toArray, List.set_cons_zero, List.set_cons_succ, i64_w, i32_w]
        rfl
      }
      exact nrm_ (ap (g5, aa, ab, none, 0) _ ⟨S, X⟩)
    · skip
      refine goes_ Try.func40 (by kernel_rfl) rfl #[.pointer (some ⟨g, 0, none⟩), .int .i64 65536] (by rfl) rfl rfl wT ?_
      with_reducible refine (spec_l01Next.calls g c p5 t5 65536 n6 p6 t6 w0 _ S.i S.b E6.out).mono ?_
      rintro e ci ⟨rfl, hi, hb, hk⟩
      refine ⟨_, rfl, ?_⟩
      refine hK.out _ _ trivial (fun _ => ?_)
      clear hK K
      refine norm_ (a' := ?_) ?_ ?_
      rotate_left
      {
        show Act.put _ (some 24) _ = _
        simp only [Act.put, List.setIfInBounds_toArray, List.set_cons_zero, List.set_cons_succ, i64_w, i32_w]
        rfl
      }
      exact nrm_ (ah (g5, aa, ab, none, 0) _ ⟨(S.call N4.out hi hb hk), (X.call hk), (row_call S L (by decide) hk)⟩)
  · clear S
    rintro ⟨g5, aa, ab, Ad, cd⟩ cj ⟨S, L⟩
    refine norm_ (a' := ?_) ?_ ?_
    rotate_left
    {
      simp only [putAll, Act.put, List.setIfInBounds_toArray, List.set_cons_zero, List.set_cons_succ]
      rfl
    }
    refine three_ (i := 14) (j := 20) (k := 23) (Ni := some 22) (Nj := some 28) (Nk := some 5) (m25 1048575) (m25 2080767) (m25 9420799) rfl rfl rfl rfl rfl rfl (three_of HT_.out (by kernel_rfl)) (by decide) (by decide) (by decide) (fun K hK => ?_) (fun K hK => ?_) (fun K hK => ?_)
    · skip
      obtain ⟨aq, eq_, hx⟩ := Kd.at_int (Kd.R_reads' L).2.2 n5 HN5.out (by rw [HFN.out]; exact HN8.out)
      obtain rfl : aa = aq := (by injection eq_)
      clear eq_
      refine value_ (w1 := ?_) (v := ?_) (by rfl) rfl ?_ ?_
      rotate_left 2
      {
        go_simp
        constructor
        rfl
        rfl
      }
      clear hx
      refine hK.out _ _ trivial (fun _ => ?_)
      clear hK K
      refine norm_ (a' := ?_) ?_ ?_
      rotate_left
      {
        show Act.put _ (some 22) _ = _
        simp only [Act.put, List.setIfInBounds_toArray, List.set_cons_zero, List.set_cons_succ, i64_w, i32_w]
        rfl
      }
      exact nrm_ (ar (0, aa, ab, none, 0) _ S)
    · skip
      refine goes_ Try.func40 (by kernel_rfl) rfl #[.pointer (some ⟨g, 0, none⟩), .int .i64 most] (by rfl) rfl rfl wT ?_
      with_reducible refine (spec_l01Next.calls g c p6 t6 most n7 p7 t7 w0 _ S.i S.b E7.out).mono ?_
      rintro e ck ⟨rfl, hi, hb, hk⟩
      refine ⟨_, rfl, ?_⟩
      refine hK.out _ _ trivial (fun _ => ?_)
      clear hK K
      refine norm_ (a' := ?_) ?_ ?_
      rotate_left
      {
        show Act.put _ (some 28) _ = _
        simp only [Act.put, List.setIfInBounds_toArray, List.set_cons_zero, List.set_cons_succ, i64_w, i32_w]
        rfl
      }
      exact nrm_ (ao (0, aa, ab, none, 0) _ ⟨(S.call N4.out hi hb hk), (row_call S L (by decide) hk)⟩)
    · skip
      refine box_step ?hg (N := 5) ?hd (cs := #[.int .i64 0, .int .i64 0, .int .i64 0, .int .i64 0, .int .i64 0, .int .i64 0, .int .i64 0, .bool false, .int .i64 0, .bool false, .slice none 0 0, .slice none 0 0]) (t := 25) ?hr ?_; (case hd => rfl); (case hg => rfl); (case hr => first | (go_simp; done) | (go_simp; rfl))
      intro g5 hg cl hbox hb
      have hg_ := Aside0.mk hg
      clear hg
      refine hK.out _ _ trivial (fun _ => ?_)
      clear hK K
      refine norm_ (a' := ?_) ?_ ?_
      rotate_left
      {
        show Act.put _ (some 5) _ = _
        simp only [Act.put, List.setIfInBounds_toArray, List.set_cons_zero, List.set_cons_succ, i64_w, i32_w]
        rfl
      }
      exact nrm_ (ah (g5, aa, ab, none, 0) _ ⟨(S.made hb), (spec_l11Draw.Bx_new S HW0.out hg_.out hbox), (Kd.R_below L hb)⟩)
  · clear S
    rintro ⟨g5, aa, ab, Ad, cd⟩ cm S
    refine norm_ (a' := ?_) ?_ ?_
    rotate_left
    {
      simp only [putAll, Act.put, List.setIfInBounds_toArray, List.set_cons_zero, List.set_cons_succ]
      rfl
    }
    refine two_ (i := 16) (j := 23) (Ni := some 24) (Nj := some 5) (m25 1048575) (m25 9371647) rfl rfl rfl rfl (two_of HT_.out (by kernel_rfl)) (by decide) (by decide) (fun K hK => ?_) (fun K hK => ?_)
    · skip
      refine goes_ Try.func40 (by kernel_rfl) rfl #[.pointer (some ⟨g, 0, none⟩), .int .i64 65536] (by rfl) rfl rfl wT ?_
      with_reducible refine (spec_l01Next.calls g c p5 t5 65536 n6 p6 t6 w0 _ S.i S.b E6.out).mono ?_
      rintro e cn ⟨rfl, hi, hb, hk⟩
      refine ⟨_, rfl, ?_⟩
      refine hK.out _ _ trivial (fun _ => ?_)
      clear hK K
      refine norm_ (a' := ?_) ?_ ?_
      rotate_left
      {
        show Act.put _ (some 24) _ = _
        simp only [Act.put, List.setIfInBounds_toArray, List.set_cons_zero, List.set_cons_succ, i64_w, i32_w]
        rfl
      }
      exact nrm_ (ar (0, aa, ab, none, 0) _ (S.call N4.out hi hb hk))
    · skip
      refine box_step ?hg (N := 5) ?hd (cs := #[.int .i64 0, .int .i64 0, .int .i64 0, .int .i64 0, .int .i64 0, .int .i64 0, .int .i64 0, .bool false, .int .i64 0, .bool false, .slice none 0 0, .slice none 0 0]) (t := 25) ?hr ?_; (case hd => rfl); (case hg => rfl); (case hr => first | (go_simp; done) | (go_simp; rfl))
      intro g5 hg co hbox hb
      have hg_ := Aside0.mk hg
      clear hg
      refine hK.out _ _ trivial (fun _ => ?_)
      clear hK K
      refine norm_ (a' := ?_) ?_ ?_
      rotate_left
      {
        show Act.put _ (some 5) _ = _
        simp only [Act.put, List.setIfInBounds_toArray, List.set_cons_zero, List.set_cons_succ, i64_w, i32_w]
        rfl
      }
      exact nrm_ (ap (g5, aa, ab, none, 0) _ ⟨(S.made hb), (spec_l11Draw.Bx_new S HW0.out hg_.out hbox)⟩)
  · clear S
    rintro ⟨g5, aa, ab, Ad, cd⟩ cp ⟨S, X⟩
    refine norm_ (a' := ?_) ?_ ?_
    rotate_left
    {
      simp only [putAll, Act.put, List.setIfInBounds_toArray, List.set_cons_zero, List.set_cons_succ]
      rfl
    }
    refine two_ (i := 10) (j := 16) (Ni := some 18) (Nj := some 24) (m25 9347071) (m25 9411583) rfl rfl rfl rfl (two_of HT_.out (by kernel_rfl)) (by decide) (by decide) (fun K hK => ?_) (fun K hK => ?_)
    · skip
      refine Kd.R_lit_step (Kd.int .i64) _ 2 ?hg (N := 18) ?hd (xs := ([2, 18, 16, 24, 17, 4, 20, 0] : List Int)) (inner := [.int .i64 2, .int .i64 18, .int .i64 16, .int .i64 24, .int .i64 17, .int .i64 4, .int .i64 20, .int .i64 0]) (ok := fun _ => True) (okp := fun _ => True) ?hr (spec_l11Draw.lit _ _ _) (fun _ hk => hk) trivial (Below.refl _ _) (Nat.le_refl _) (by simp) ?_; (case hd => rfl); (case hg => rfl); (case hr => first | (go_simp; done) | (go_simp; rfl))
      intro ax cq ho hb _ _
      rw [← HFL.out] at ho
      replace ho := Kd.R_lower ho (keep_size S.2.2.1)
      obtain ⟨Al, ab, el⟩ := Kd.R_slice ho
      subst el
      obtain ⟨aa, fo, _⟩ := Kd.at_int (Kd.R_reads' ho).2.2 0 (by decide) (by rw [HFN.out]; decide)
      subst fo
      refine hK.out _ _ trivial (fun _ => ?_)
      clear hK K
      refine norm_ (a' := ?_) ?_ ?_
      rotate_left
      {
        show Act.put _ (some 18) _ = _
        simp only [Act.put, List.setIfInBounds_toArray, List.set_cons_zero, List.set_cons_succ, i64_w, i32_w]
        rfl
      }
      refine pure_ (i := 13) (N := some 21) (v := ?_) (a' := ?_) (m25 9355263) rfl rfl (any_of HT_.out (by kernel_rfl)) (fun _ _ _ h => h) (Or.inl ⟨by rfl, ?_⟩) ?_ ?_
      rotate_left
      {
        intro w'
        go_simp
        with_reducible rfl
      }
      rotate_left
      {
        simp only [Act.put, List.setIfInBounds_toArray, List.set_cons_zero, List.set_cons_succ, i64_w, i32_w]
        rfl
      }
      exact nrm_ (am (g5, aa, ab, none, 0) _ ⟨(S.made hb), (X.made hb), ho⟩)
    · skip
      refine goes_ Try.func40 (by kernel_rfl) rfl #[.pointer (some ⟨g, 0, none⟩), .int .i64 65536] (by rfl) rfl rfl wT ?_
      with_reducible refine (spec_l01Next.calls g c p5 t5 65536 n6 p6 t6 w0 _ S.i S.b E6.out).mono ?_
      rintro e cr ⟨rfl, hi, hb, hk⟩
      refine ⟨_, rfl, ?_⟩
      refine hK.out _ _ trivial (fun _ => ?_)
      clear hK K
      refine norm_ (a' := ?_) ?_ ?_
      rotate_left
      {
        show Act.put _ (some 24) _ = _
        simp only [Act.put, List.setIfInBounds_toArray, List.set_cons_zero, List.set_cons_succ, i64_w, i32_w]
        rfl
      }
      exact nrm_ (av (g5, ⟨0, 0, none⟩, 0, none, 0) _ ⟨(S.call N4.out hi hb hk), (X.call hk)⟩)
  · clear S
    rintro ⟨g5, aa, ab, Ad, cd⟩ ct S
    refine norm_ (a' := ?_) ?_ ?_
    rotate_left
    {
      simp only [putAll, Act.put, List.setIfInBounds_toArray, List.set_cons_zero, List.set_cons_succ]
      rfl
    }
    refine three_ (i := 10) (j := 20) (k := 23) (Ni := some 18) (Nj := some 28) (Nk := some 5) (m25 1023999) (m25 2071551) (m25 9411583) rfl rfl rfl rfl rfl rfl (three_of HT_.out (by kernel_rfl)) (by decide) (by decide) (by decide) (fun K hK => ?_) (fun K hK => ?_) (fun K hK => ?_)
    · skip
      refine Kd.R_lit_step (Kd.int .i64) _ 2 ?hg (N := 18) ?hd (xs := ([2, 18, 16, 24, 17, 4, 20, 0] : List Int)) (inner := [.int .i64 2, .int .i64 18, .int .i64 16, .int .i64 24, .int .i64 17, .int .i64 4, .int .i64 20, .int .i64 0]) (ok := fun _ => True) (okp := fun _ => True) ?hr (spec_l11Draw.lit _ _ _) (fun _ hk => hk) trivial (Below.refl _ _) (Nat.le_refl _) (by simp) ?_; (case hd => rfl); (case hg => rfl); (case hr => first | (go_simp; done) | (go_simp; rfl))
      intro ax cu ho hb _ _
      rw [← HFL.out] at ho
      replace ho := Kd.R_lower ho (keep_size S.2.2.1)
      obtain ⟨Al, ab, el⟩ := Kd.R_slice ho
      subst el
      obtain ⟨aa, fo, _⟩ := Kd.at_int (Kd.R_reads' ho).2.2 0 (by decide) (by rw [HFN.out]; decide)
      subst fo
      refine hK.out _ _ trivial (fun _ => ?_)
      clear hK K
      refine norm_ (a' := ?_) ?_ ?_
      rotate_left
      {
        show Act.put _ (some 18) _ = _
        simp only [Act.put, List.setIfInBounds_toArray, List.set_cons_zero, List.set_cons_succ, i64_w, i32_w]
        rfl
      }
      refine pure_ (i := 13) (N := some 21) (v := ?_) (a' := ?_) (m25 1032191) rfl rfl (any_of HT_.out (by kernel_rfl)) (fun _ _ _ h => h) (Or.inl ⟨by rfl, ?_⟩) ?_ ?_
      rotate_left
      {
        intro w'
        go_simp
        with_reducible rfl
      }
      rotate_left
      {
        simp only [Act.put, List.setIfInBounds_toArray, List.set_cons_zero, List.set_cons_succ, i64_w, i32_w]
        rfl
      }
      exact nrm_ (aw (0, aa, ab, none, 0) _ ⟨(S.made hb), ho⟩)
    · skip
      refine goes_ Try.func40 (by kernel_rfl) rfl #[.pointer (some ⟨g, 0, none⟩), .int .i64 most] (by rfl) rfl rfl wT ?_
      with_reducible refine (spec_l01Next.calls g c p6 t6 most n7 p7 t7 w0 _ S.i S.b E7.out).mono ?_
      rintro e cv ⟨rfl, hi, hb, hk⟩
      refine ⟨_, rfl, ?_⟩
      refine hK.out _ _ trivial (fun _ => ?_)
      clear hK K
      refine norm_ (a' := ?_) ?_ ?_
      rotate_left
      {
        show Act.put _ (some 28) _ = _
        simp only [Act.put, List.setIfInBounds_toArray, List.set_cons_zero, List.set_cons_succ, i64_w, i32_w]
        rfl
      }
      exact nrm_ (aD (0, ⟨0, 0, none⟩, 0, none, 0) _ (S.call N4.out hi hb hk))
    · skip
      refine box_step ?hg (N := 5) ?hd (cs := #[.int .i64 0, .int .i64 0, .int .i64 0, .int .i64 0, .int .i64 0, .int .i64 0, .int .i64 0, .bool false, .int .i64 0, .bool false, .slice none 0 0, .slice none 0 0]) (t := 25) ?hr ?_; (case hd => rfl); (case hg => rfl); (case hr => first | (go_simp; done) | (go_simp; rfl))
      intro g5 hg cw hbox hb
      have hg_ := Aside0.mk hg
      clear hg
      refine hK.out _ _ trivial (fun _ => ?_)
      clear hK K
      refine norm_ (a' := ?_) ?_ ?_
      rotate_left
      {
        show Act.put _ (some 5) _ = _
        simp only [Act.put, List.setIfInBounds_toArray, List.set_cons_zero, List.set_cons_succ, i64_w, i32_w]
        rfl
      }
      exact nrm_ (av (g5, ⟨0, 0, none⟩, 0, none, 0) _ ⟨(S.made hb), (spec_l11Draw.Bx_new S HW0.out hg_.out hbox)⟩)
  · clear S
    rintro ⟨g5, aa, ab, Ad, cd⟩ cx ⟨S, X, L⟩
    refine norm_ (a' := ?_) ?_ ?_
    rotate_left
    {
      simp only [putAll, Act.put, List.setIfInBounds_toArray, List.set_cons_zero, List.set_cons_succ]
      rfl
    }
    refine one_ (i := 12) (N := some 20) (m25 9347071) rfl rfl (one_of HT_.out (by kernel_rfl)) (by decide) (fun K hK => ?_)
    refine goes_ Try.func40 (by kernel_rfl) rfl #[.pointer (some ⟨g, 0, none⟩), .int .i64 8] (by rfl) rfl rfl wT ?_
    with_reducible refine (spec_l01Next.calls g c p4 t4 8 n5 p5 t5 w0 _ S.i S.b E5.out).mono ?_
    rintro e cy ⟨rfl, hi, hb, hk⟩
    refine ⟨_, rfl, ?_⟩
    refine hK.out _ _ trivial (fun _ => ?_)
    clear hK K
    refine norm_ (a' := ?_) ?_ ?_
    rotate_left
    {
      show Act.put _ (some 20) _ = _
      simp only [Act.put, List.setIfInBounds_toArray, List.set_cons_zero, List.set_cons_succ, i64_w, i32_w]
      rfl
    }
    refine pure_ (i := 13) (N := some 21) (v := ?_) (a' := ?_) (m25 9355263) rfl rfl (any_of HT_.out (by kernel_rfl)) (fun _ _ _ h => h) (Or.inl ⟨by rfl, ?_⟩) ?_ ?_
    rotate_left
    {
      intro w'
      go_simp
      with_reducible rfl
    }
    rotate_left
    {
      simp only [Act.put, List.setIfInBounds_toArray, List.set_cons_zero, List.set_cons_succ, i64_w, i32_w]
      rfl
    }
    exact nrm_ (am (g5, aa, ab, none, 0) _ ⟨(S.call N4.out hi hb hk), (X.call hk), (row_call S L (by decide) hk)⟩)
  · clear S
    rintro ⟨g5, aa, ab, Ad, cd⟩ cA ⟨S, L⟩
    refine norm_ (a' := ?_) ?_ ?_
    rotate_left
    {
      simp only [putAll, Act.put, List.setIfInBounds_toArray, List.set_cons_zero, List.set_cons_succ]
      rfl
    }
    refine three_ (i := 14) (j := 16) (k := 23) (Ni := some 22) (Nj := some 24) (Nk := some 5) (m25 983039) (m25 1032191) (m25 9355263) rfl rfl rfl rfl rfl rfl (three_of HT_.out (by kernel_rfl)) (by decide) (by decide) (by decide) (fun K hK => ?_) (fun K hK => ?_) (fun K hK => ?_)
    · skip
      obtain ⟨aq, eq_, hx⟩ := Kd.at_int (Kd.R_reads' L).2.2 n5 HN5.out (by rw [HFN.out]; exact HN8.out)
      obtain rfl : aa = aq := (by injection eq_)
      clear eq_
      refine value_ (w1 := ?_) (v := ?_) (by rfl) rfl ?_ ?_
      rotate_left 2
      {
        go_simp
        constructor
        rfl
        rfl
      }
      clear hx
      refine hK.out _ _ trivial (fun _ => ?_)
      clear hK K
      refine norm_ (a' := ?_) ?_ ?_
      rotate_left
      {
        show Act.put _ (some 22) _ = _
        simp only [Act.put, List.setIfInBounds_toArray, List.set_cons_zero, List.set_cons_succ, i64_w, i32_w]
        rfl
      }
      exact nrm_ (aE (0, aa, ab, none, 0) _ S)
    · skip
      refine goes_ Try.func40 (by kernel_rfl) rfl #[.pointer (some ⟨g, 0, none⟩), .int .i64 65536] (by rfl) rfl rfl wT ?_
      with_reducible refine (spec_l01Next.calls g c p5 t5 65536 n6 p6 t6 w0 _ S.i S.b E6.out).mono ?_
      rintro e cB ⟨rfl, hi, hb, hk⟩
      refine ⟨_, rfl, ?_⟩
      refine hK.out _ _ trivial (fun _ => ?_)
      clear hK K
      refine norm_ (a' := ?_) ?_ ?_
      rotate_left
      {
        show Act.put _ (some 24) _ = _
        simp only [Act.put, List.setIfInBounds_toArray, List.set_cons_zero, List.set_cons_succ, i64_w, i32_w]
        rfl
      }
      exact nrm_ (aw (0, aa, ab, none, 0) _ ⟨(S.call N4.out hi hb hk), (row_call S L (by decide) hk)⟩)
    · skip
      refine box_step ?hg (N := 5) ?hd (cs := #[.int .i64 0, .int .i64 0, .int .i64 0, .int .i64 0, .int .i64 0, .int .i64 0, .int .i64 0, .bool false, .int .i64 0, .bool false, .slice none 0 0, .slice none 0 0]) (t := 25) ?hr ?_; (case hd => rfl); (case hg => rfl); (case hr => first | (go_simp; done) | (go_simp; rfl))
      intro g5 hg cC hbox hb
      have hg_ := Aside0.mk hg
      clear hg
      refine hK.out _ _ trivial (fun _ => ?_)
      clear hK K
      refine norm_ (a' := ?_) ?_ ?_
      rotate_left
      {
        show Act.put _ (some 5) _ = _
        simp only [Act.put, List.setIfInBounds_toArray, List.set_cons_zero, List.set_cons_succ, i64_w, i32_w]
        rfl
      }
      exact nrm_ (am (g5, aa, ab, none, 0) _ ⟨(S.made hb), (spec_l11Draw.Bx_new S HW0.out hg_.out hbox), (Kd.R_below L hb)⟩)
  · clear S
    rintro ⟨g5, aa, ab, Ad, cd⟩ cD ⟨S, X, L⟩
    refine norm_ (a' := ?_) ?_ ?_
    rotate_left
    {
      simp only [putAll, Act.put, List.setIfInBounds_toArray, List.set_cons_zero, List.set_cons_succ]
      rfl
    }
    refine one_ (i := 9) (N := some 17) (m25 9342975) rfl rfl (one_of HT_.out (by kernel_rfl)) (by decide) (fun K hK => ?_)
    refine goes_ Try.func55 (by kernel_rfl) rfl #[.pointer (some ⟨g, 0, none⟩)] (by rfl) rfl rfl wT ?_
    with_reducible refine (spec_l01Seq.calls g c p3 t3  n4 p4 t4 w0 _ S.i S.b E4.out).mono ?_
    rintro e cE ⟨rfl, hi, hb, hk⟩
    refine ⟨_, rfl, ?_⟩
    refine hK.out _ _ trivial (fun _ => ?_)
    clear hK K
    refine norm_ (a' := ?_) ?_ ?_
    rotate_left
    {
      show Act.put _ (some 17) _ = _
      simp only [Act.put, List.setIfInBounds_toArray, List.set_cons_zero, List.set_cons_succ, i64_w, i32_w]
      rfl
    }
    exact nrm_ (au (g5, aa, ab, none, 0) _ ⟨(S.call N4.out hi hb hk), (X.call hk), (row_call S L (by decide) hk)⟩)
  · clear S
    rintro ⟨g5, aa, ab, Ad, cd⟩ cF ⟨S, X⟩
    refine norm_ (a' := ?_) ?_ ?_
    rotate_left
    {
      simp only [putAll, Act.put, List.setIfInBounds_toArray, List.set_cons_zero, List.set_cons_succ]
      rfl
    }
    refine two_ (i := 10) (j := 12) (Ni := some 18) (Nj := some 20) (m25 9342975) (m25 9346047) rfl rfl rfl rfl (two_of HT_.out (by kernel_rfl)) (by decide) (by decide) (fun K hK => ?_) (fun K hK => ?_)
    · skip
      refine Kd.R_lit_step (Kd.int .i64) _ 2 ?hg (N := 18) ?hd (xs := ([2, 18, 16, 24, 17, 4, 20, 0] : List Int)) (inner := [.int .i64 2, .int .i64 18, .int .i64 16, .int .i64 24, .int .i64 17, .int .i64 4, .int .i64 20, .int .i64 0]) (ok := fun _ => True) (okp := fun _ => True) ?hr (spec_l11Draw.lit _ _ _) (fun _ hk => hk) trivial (Below.refl _ _) (Nat.le_refl _) (by simp) ?_; (case hd => rfl); (case hg => rfl); (case hr => first | (go_simp; done) | (go_simp; rfl))
      intro ax cG ho hb _ _
      rw [← HFL.out] at ho
      replace ho := Kd.R_lower ho (keep_size S.2.2.1)
      obtain ⟨Al, ab, el⟩ := Kd.R_slice ho
      subst el
      obtain ⟨aa, fo, _⟩ := Kd.at_int (Kd.R_reads' ho).2.2 0 (by decide) (by rw [HFN.out]; decide)
      subst fo
      refine hK.out _ _ trivial (fun _ => ?_)
      clear hK K
      refine norm_ (a' := ?_) ?_ ?_
      rotate_left
      {
        show Act.put _ (some 18) _ = _
        simp only [Act.put, List.setIfInBounds_toArray, List.set_cons_zero, List.set_cons_succ, i64_w, i32_w]
        rfl
      }
      exact nrm_ (au (g5, aa, ab, none, 0) _ ⟨(S.made hb), (X.made hb), ho⟩)
    · skip
      refine goes_ Try.func40 (by kernel_rfl) rfl #[.pointer (some ⟨g, 0, none⟩), .int .i64 8] (by rfl) rfl rfl wT ?_
      with_reducible refine (spec_l01Next.calls g c p4 t4 8 n5 p5 t5 w0 _ S.i S.b E5.out).mono ?_
      rintro e cH ⟨rfl, hi, hb, hk⟩
      refine ⟨_, rfl, ?_⟩
      refine hK.out _ _ trivial (fun _ => ?_)
      clear hK K
      refine norm_ (a' := ?_) ?_ ?_
      rotate_left
      {
        show Act.put _ (some 20) _ = _
        simp only [Act.put, List.setIfInBounds_toArray, List.set_cons_zero, List.set_cons_succ, i64_w, i32_w]
        rfl
      }
      exact nrm_ (az (g5, ⟨0, 0, none⟩, 0, none, 0) _ ⟨(S.call N4.out hi hb hk), (X.call hk)⟩)
  · clear S
    rintro ⟨g5, aa, ab, Ad, cd⟩ cI S
    refine norm_ (a' := ?_) ?_ ?_
    rotate_left
    {
      simp only [putAll, Act.put, List.setIfInBounds_toArray, List.set_cons_zero, List.set_cons_succ]
      rfl
    }
    refine three_ (i := 10) (j := 16) (k := 23) (Ni := some 18) (Nj := some 24) (Nk := some 5) (m25 958463) (m25 1022975) (m25 9346047) rfl rfl rfl rfl rfl rfl (three_of HT_.out (by kernel_rfl)) (by decide) (by decide) (by decide) (fun K hK => ?_) (fun K hK => ?_) (fun K hK => ?_)
    · skip
      refine Kd.R_lit_step (Kd.int .i64) _ 2 ?hg (N := 18) ?hd (xs := ([2, 18, 16, 24, 17, 4, 20, 0] : List Int)) (inner := [.int .i64 2, .int .i64 18, .int .i64 16, .int .i64 24, .int .i64 17, .int .i64 4, .int .i64 20, .int .i64 0]) (ok := fun _ => True) (okp := fun _ => True) ?hr (spec_l11Draw.lit _ _ _) (fun _ hk => hk) trivial (Below.refl _ _) (Nat.le_refl _) (by simp) ?_; (case hd => rfl); (case hg => rfl); (case hr => first | (go_simp; done) | (go_simp; rfl))
      intro ax cJ ho hb _ _
      rw [← HFL.out] at ho
      replace ho := Kd.R_lower ho (keep_size S.2.2.1)
      obtain ⟨Al, ab, el⟩ := Kd.R_slice ho
      subst el
      obtain ⟨aa, fo, _⟩ := Kd.at_int (Kd.R_reads' ho).2.2 0 (by decide) (by rw [HFN.out]; decide)
      subst fo
      refine hK.out _ _ trivial (fun _ => ?_)
      clear hK K
      refine norm_ (a' := ?_) ?_ ?_
      rotate_left
      {
        show Act.put _ (some 18) _ = _
        simp only [Act.put, List.setIfInBounds_toArray, List.set_cons_zero, List.set_cons_succ, i64_w, i32_w]
        rfl
      }
      refine pure_ (i := 13) (N := some 21) (v := ?_) (a' := ?_) (m25 966655) rfl rfl (any_of HT_.out (by kernel_rfl)) (fun _ _ _ h => h) (Or.inl ⟨by rfl, ?_⟩) ?_ ?_
      rotate_left
      {
        intro w'
        go_simp
        with_reducible rfl
      }
      rotate_left
      {
        simp only [Act.put, List.setIfInBounds_toArray, List.set_cons_zero, List.set_cons_succ, i64_w, i32_w]
        rfl
      }
      exact nrm_ (aA (0, aa, ab, none, 0) _ ⟨(S.made hb), ho⟩)
    · skip
      refine goes_ Try.func40 (by kernel_rfl) rfl #[.pointer (some ⟨g, 0, none⟩), .int .i64 65536] (by rfl) rfl rfl wT ?_
      with_reducible refine (spec_l01Next.calls g c p5 t5 65536 n6 p6 t6 w0 _ S.i S.b E6.out).mono ?_
      rintro e cK ⟨rfl, hi, hb, hk⟩
      refine ⟨_, rfl, ?_⟩
      refine hK.out _ _ trivial (fun _ => ?_)
      clear hK K
      refine norm_ (a' := ?_) ?_ ?_
      rotate_left
      {
        show Act.put _ (some 24) _ = _
        simp only [Act.put, List.setIfInBounds_toArray, List.set_cons_zero, List.set_cons_succ, i64_w, i32_w]
        rfl
      }
      exact nrm_ (aJ (0, ⟨0, 0, none⟩, 0, none, 0) _ (S.call N4.out hi hb hk))
    · skip
      refine box_step ?hg (N := 5) ?hd (cs := #[.int .i64 0, .int .i64 0, .int .i64 0, .int .i64 0, .int .i64 0, .int .i64 0, .int .i64 0, .bool false, .int .i64 0, .bool false, .slice none 0 0, .slice none 0 0]) (t := 25) ?hr ?_; (case hd => rfl); (case hg => rfl); (case hr => first | (go_simp; done) | (go_simp; rfl))
      intro g5 hg cL hbox hb
      have hg_ := Aside0.mk hg
      clear hg
      refine hK.out _ _ trivial (fun _ => ?_)
      clear hK K
      refine norm_ (a' := ?_) ?_ ?_
      rotate_left
      {
        show Act.put _ (some 5) _ = _
        simp only [Act.put, List.setIfInBounds_toArray, List.set_cons_zero, List.set_cons_succ, i64_w, i32_w]
        rfl
      }
      exact nrm_ (az (g5, ⟨0, 0, none⟩, 0, none, 0) _ ⟨(S.made hb), (spec_l11Draw.Bx_new S HW0.out hg_.out hbox)⟩)
  · clear S
    rintro ⟨g5, aa, ab, Ad, cd⟩ cM ⟨S, L⟩
    refine norm_ (a' := ?_) ?_ ?_
    rotate_left
    {
      simp only [putAll, Act.put, List.setIfInBounds_toArray, List.set_cons_zero, List.set_cons_succ]
      rfl
    }
    refine two_ (i := 12) (j := 23) (Ni := some 20) (Nj := some 5) (m25 958463) (m25 9342975) rfl rfl rfl rfl (two_of HT_.out (by kernel_rfl)) (by decide) (by decide) (fun K hK => ?_) (fun K hK => ?_)
    · skip
      refine goes_ Try.func40 (by kernel_rfl) rfl #[.pointer (some ⟨g, 0, none⟩), .int .i64 8] (by rfl) rfl rfl wT ?_
      with_reducible refine (spec_l01Next.calls g c p4 t4 8 n5 p5 t5 w0 _ S.i S.b E5.out).mono ?_
      rintro e cN ⟨rfl, hi, hb, hk⟩
      refine ⟨_, rfl, ?_⟩
      refine hK.out _ _ trivial (fun _ => ?_)
      clear hK K
      refine norm_ (a' := ?_) ?_ ?_
      rotate_left
      {
        show Act.put _ (some 20) _ = _
        simp only [Act.put, List.setIfInBounds_toArray, List.set_cons_zero, List.set_cons_succ, i64_w, i32_w]
        rfl
      }
      refine pure_ (i := 13) (N := some 21) (v := ?_) (a' := ?_) (m25 966655) rfl rfl (any_of HT_.out (by kernel_rfl)) (fun _ _ _ h => h) (Or.inl ⟨by rfl, ?_⟩) ?_ ?_
      rotate_left
      {
        intro w'
        go_simp
        with_reducible rfl
      }
      rotate_left
      {
        simp only [Act.put, List.setIfInBounds_toArray, List.set_cons_zero, List.set_cons_succ, i64_w, i32_w]
        rfl
      }
      exact nrm_ (aA (0, aa, ab, none, 0) _ ⟨(S.call N4.out hi hb hk), (row_call S L (by decide) hk)⟩)
    · skip
      refine box_step ?hg (N := 5) ?hd (cs := #[.int .i64 0, .int .i64 0, .int .i64 0, .int .i64 0, .int .i64 0, .int .i64 0, .int .i64 0, .bool false, .int .i64 0, .bool false, .slice none 0 0, .slice none 0 0]) (t := 25) ?hr ?_; (case hd => rfl); (case hg => rfl); (case hr => first | (go_simp; done) | (go_simp; rfl))
      intro g5 hg cO hbox hb
      have hg_ := Aside0.mk hg
      clear hg
      refine hK.out _ _ trivial (fun _ => ?_)
      clear hK K
      refine norm_ (a' := ?_) ?_ ?_
      rotate_left
      {
        show Act.put _ (some 5) _ = _
        simp only [Act.put, List.setIfInBounds_toArray, List.set_cons_zero, List.set_cons_succ, i64_w, i32_w]
        rfl
      }
      exact nrm_ (au (g5, aa, ab, none, 0) _ ⟨(S.made hb), (spec_l11Draw.Bx_new S HW0.out hg_.out hbox), (Kd.R_below L hb)⟩)
  · clear S
    rintro ⟨g5, aa, ab, Ad, cd⟩ cP ⟨S, X, L⟩
    refine norm_ (a' := ?_) ?_ ?_
    rotate_left
    {
      simp only [putAll, Act.put, List.setIfInBounds_toArray, List.set_cons_zero, List.set_cons_succ]
      rfl
    }
    refine one_ (i := 7) (N := some 15) (m25 9342463) rfl rfl (one_of HT_.out (by kernel_rfl)) (by decide) (fun K hK => ?_)
    refine goes_ Try.func55 (by kernel_rfl) rfl #[.pointer (some ⟨g, 0, none⟩)] (by rfl) rfl rfl wT ?_
    with_reducible refine (spec_l01Seq.calls g c p2 t2  n3 p3 t3 w0 _ S.i S.b E3.out).mono ?_
    rintro e cQ ⟨rfl, hi, hb, hk⟩
    refine ⟨_, rfl, ?_⟩
    refine hK.out _ _ trivial (fun _ => ?_)
    clear hK K
    refine norm_ (a' := ?_) ?_ ?_
    rotate_left
    {
      show Act.put _ (some 15) _ = _
      simp only [Act.put, List.setIfInBounds_toArray, List.set_cons_zero, List.set_cons_succ, i64_w, i32_w]
      rfl
    }
    exact nrm_ (ay (g5, aa, ab, none, 0) _ ⟨(S.call N4.out hi hb hk), (X.call hk), (row_call S L (by decide) hk)⟩)
  · clear S
    rintro ⟨g5, aa, ab, Ad, cd⟩ cR ⟨S, X⟩
    refine norm_ (a' := ?_) ?_ ?_
    rotate_left
    {
      simp only [putAll, Act.put, List.setIfInBounds_toArray, List.set_cons_zero, List.set_cons_succ]
      rfl
    }
    refine two_ (i := 9) (j := 10) (Ni := some 17) (Nj := some 18) (m25 9341951) (m25 9342463) rfl rfl rfl rfl (two_of HT_.out (by kernel_rfl)) (by decide) (by decide) (fun K hK => ?_) (fun K hK => ?_)
    · skip
      refine goes_ Try.func55 (by kernel_rfl) rfl #[.pointer (some ⟨g, 0, none⟩)] (by rfl) rfl rfl wT ?_
      with_reducible refine (spec_l01Seq.calls g c p3 t3  n4 p4 t4 w0 _ S.i S.b E4.out).mono ?_
      rintro e cS ⟨rfl, hi, hb, hk⟩
      refine ⟨_, rfl, ?_⟩
      refine hK.out _ _ trivial (fun _ => ?_)
      clear hK K
      refine norm_ (a' := ?_) ?_ ?_
      rotate_left
      {
        show Act.put _ (some 17) _ = _
        simp only [Act.put, List.setIfInBounds_toArray, List.set_cons_zero, List.set_cons_succ, i64_w, i32_w]
        rfl
      }
      exact nrm_ (aG (g5, ⟨0, 0, none⟩, 0, none, 0) _ ⟨(S.call N4.out hi hb hk), (X.call hk)⟩)
    · skip
      refine Kd.R_lit_step (Kd.int .i64) _ 2 ?hg (N := 18) ?hd (xs := ([2, 18, 16, 24, 17, 4, 20, 0] : List Int)) (inner := [.int .i64 2, .int .i64 18, .int .i64 16, .int .i64 24, .int .i64 17, .int .i64 4, .int .i64 20, .int .i64 0]) (ok := fun _ => True) (okp := fun _ => True) ?hr (spec_l11Draw.lit _ _ _) (fun _ hk => hk) trivial (Below.refl _ _) (Nat.le_refl _) (by simp) ?_; (case hd => rfl); (case hg => rfl); (case hr => first | (go_simp; done) | (go_simp; rfl))
      intro ax cT ho hb _ _
      rw [← HFL.out] at ho
      replace ho := Kd.R_lower ho (keep_size S.2.2.1)
      obtain ⟨Al, ab, el⟩ := Kd.R_slice ho
      subst el
      obtain ⟨aa, fo, _⟩ := Kd.at_int (Kd.R_reads' ho).2.2 0 (by decide) (by rw [HFN.out]; decide)
      subst fo
      refine hK.out _ _ trivial (fun _ => ?_)
      clear hK K
      refine norm_ (a' := ?_) ?_ ?_
      rotate_left
      {
        show Act.put _ (some 18) _ = _
        simp only [Act.put, List.setIfInBounds_toArray, List.set_cons_zero, List.set_cons_succ, i64_w, i32_w]
        rfl
      }
      exact nrm_ (ay (g5, aa, ab, none, 0) _ ⟨(S.made hb), (X.made hb), ho⟩)
  · clear S
    rintro ⟨g5, aa, ab, Ad, cd⟩ cU ⟨S, L⟩
    refine norm_ (a' := ?_) ?_ ?_
    rotate_left
    {
      simp only [putAll, Act.put, List.setIfInBounds_toArray, List.set_cons_zero, List.set_cons_succ]
      rfl
    }
    refine two_ (i := 9) (j := 23) (Ni := some 17) (Nj := some 5) (m25 954367) (m25 9342463) rfl rfl rfl rfl (two_of HT_.out (by kernel_rfl)) (by decide) (by decide) (fun K hK => ?_) (fun K hK => ?_)
    · skip
      refine goes_ Try.func55 (by kernel_rfl) rfl #[.pointer (some ⟨g, 0, none⟩)] (by rfl) rfl rfl wT ?_
      with_reducible refine (spec_l01Seq.calls g c p3 t3  n4 p4 t4 w0 _ S.i S.b E4.out).mono ?_
      rintro e cV ⟨rfl, hi, hb, hk⟩
      refine ⟨_, rfl, ?_⟩
      refine hK.out _ _ trivial (fun _ => ?_)
      clear hK K
      refine norm_ (a' := ?_) ?_ ?_
      rotate_left
      {
        show Act.put _ (some 17) _ = _
        simp only [Act.put, List.setIfInBounds_toArray, List.set_cons_zero, List.set_cons_succ, i64_w, i32_w]
        rfl
      }
      exact nrm_ (aH (0, aa, ab, none, 0) _ ⟨(S.call N4.out hi hb hk), (row_call S L (by decide) hk)⟩)
    · skip
      refine box_step ?hg (N := 5) ?hd (cs := #[.int .i64 0, .int .i64 0, .int .i64 0, .int .i64 0, .int .i64 0, .int .i64 0, .int .i64 0, .bool false, .int .i64 0, .bool false, .slice none 0 0, .slice none 0 0]) (t := 25) ?hr ?_; (case hd => rfl); (case hg => rfl); (case hr => first | (go_simp; done) | (go_simp; rfl))
      intro g5 hg cW hbox hb
      have hg_ := Aside0.mk hg
      clear hg
      refine hK.out _ _ trivial (fun _ => ?_)
      clear hK K
      refine norm_ (a' := ?_) ?_ ?_
      rotate_left
      {
        show Act.put _ (some 5) _ = _
        simp only [Act.put, List.setIfInBounds_toArray, List.set_cons_zero, List.set_cons_succ, i64_w, i32_w]
        rfl
      }
      exact nrm_ (ay (g5, aa, ab, none, 0) _ ⟨(S.made hb), (spec_l11Draw.Bx_new S HW0.out hg_.out hbox), (Kd.R_below L hb)⟩)
  · clear S
    rintro ⟨g5, aa, ab, Ad, cd⟩ cX S
    refine norm_ (a' := ?_) ?_ ?_
    rotate_left
    {
      simp only [putAll, Act.put, List.setIfInBounds_toArray, List.set_cons_zero, List.set_cons_succ]
      rfl
    }
    refine three_ (i := 10) (j := 12) (k := 23) (Ni := some 18) (Nj := some 20) (Nk := some 5) (m25 954367) (m25 957439) (m25 9341951) rfl rfl rfl rfl rfl rfl (three_of HT_.out (by kernel_rfl)) (by decide) (by decide) (by decide) (fun K hK => ?_) (fun K hK => ?_) (fun K hK => ?_)
    · skip
      refine Kd.R_lit_step (Kd.int .i64) _ 2 ?hg (N := 18) ?hd (xs := ([2, 18, 16, 24, 17, 4, 20, 0] : List Int)) (inner := [.int .i64 2, .int .i64 18, .int .i64 16, .int .i64 24, .int .i64 17, .int .i64 4, .int .i64 20, .int .i64 0]) (ok := fun _ => True) (okp := fun _ => True) ?hr (spec_l11Draw.lit _ _ _) (fun _ hk => hk) trivial (Below.refl _ _) (Nat.le_refl _) (by simp) ?_; (case hd => rfl); (case hg => rfl); (case hr => first | (go_simp; done) | (go_simp; rfl))
      intro ax cY ho hb _ _
      rw [← HFL.out] at ho
      replace ho := Kd.R_lower ho (keep_size S.2.2.1)
      obtain ⟨Al, ab, el⟩ := Kd.R_slice ho
      subst el
      obtain ⟨aa, fo, _⟩ := Kd.at_int (Kd.R_reads' ho).2.2 0 (by decide) (by rw [HFN.out]; decide)
      subst fo
      refine hK.out _ _ trivial (fun _ => ?_)
      clear hK K
      refine norm_ (a' := ?_) ?_ ?_
      rotate_left
      {
        show Act.put _ (some 18) _ = _
        simp only [Act.put, List.setIfInBounds_toArray, List.set_cons_zero, List.set_cons_succ, i64_w, i32_w]
        rfl
      }
      exact nrm_ (aH (0, aa, ab, none, 0) _ ⟨(S.made hb), ho⟩)
    · skip
      refine goes_ Try.func40 (by kernel_rfl) rfl #[.pointer (some ⟨g, 0, none⟩), .int .i64 8] (by rfl) rfl rfl wT ?_
      with_reducible refine (spec_l01Next.calls g c p4 t4 8 n5 p5 t5 w0 _ S.i S.b E5.out).mono ?_
      rintro e cZ ⟨rfl, hi, hb, hk⟩
      refine ⟨_, rfl, ?_⟩
      refine hK.out _ _ trivial (fun _ => ?_)
      clear hK K
      refine norm_ (a' := ?_) ?_ ?_
      rotate_left
      {
        show Act.put _ (some 20) _ = _
        simp only [Act.put, List.setIfInBounds_toArray, List.set_cons_zero, List.set_cons_succ, i64_w, i32_w]
        rfl
      }
      exact nrm_ (aN (0, ⟨0, 0, none⟩, 0, none, 0) _ (S.call N4.out hi hb hk))
    · skip
      refine box_step ?hg (N := 5) ?hd (cs := #[.int .i64 0, .int .i64 0, .int .i64 0, .int .i64 0, .int .i64 0, .int .i64 0, .int .i64 0, .bool false, .int .i64 0, .bool false, .slice none 0 0, .slice none 0 0]) (t := 25) ?hr ?_; (case hd => rfl); (case hg => rfl); (case hr => first | (go_simp; done) | (go_simp; rfl))
      intro g5 hg c0 hbox hb
      have hg_ := Aside0.mk hg
      clear hg
      refine hK.out _ _ trivial (fun _ => ?_)
      clear hK K
      refine norm_ (a' := ?_) ?_ ?_
      rotate_left
      {
        show Act.put _ (some 5) _ = _
        simp only [Act.put, List.setIfInBounds_toArray, List.set_cons_zero, List.set_cons_succ, i64_w, i32_w]
        rfl
      }
      exact nrm_ (aG (g5, ⟨0, 0, none⟩, 0, none, 0) _ ⟨(S.made hb), (spec_l11Draw.Bx_new S HW0.out hg_.out hbox)⟩)
  · clear S
    rintro ⟨g5, aa, ab, Ad, cd⟩ c1 ⟨S, X, L⟩
    refine norm_ (a' := ?_) ?_ ?_
    rotate_left
    {
      simp only [putAll, Act.put, List.setIfInBounds_toArray, List.set_cons_zero, List.set_cons_succ]
      rfl
    }
    refine one_ (i := 4) (N := some 12) (m25 9342303) rfl rfl (one_of HT_.out (by kernel_rfl)) (by decide) (fun K hK => ?_)
    refine goes_ Try.func40 (by kernel_rfl) rfl #[.pointer (some ⟨g, 0, none⟩), .int .i64 4] (by rfl) rfl rfl wT ?_
    with_reducible refine (spec_l01Next.calls g c p1 t1 4 n2 p2 t2 w0 _ S.i S.b E2.out).mono ?_
    rintro e da ⟨rfl, hi, hb, hk⟩
    refine ⟨_, rfl, ?_⟩
    refine hK.out _ _ trivial (fun _ => ?_)
    clear hK K
    refine norm_ (a' := ?_) ?_ ?_
    rotate_left
    {
      show Act.put _ (some 12) _ = _
      simp only [Act.put, List.setIfInBounds_toArray, List.set_cons_zero, List.set_cons_succ, i64_w, i32_w]
      rfl
    }
    refine pure_ (i := 5) (N := some 13) (v := ?_) (a' := ?_) (m25 9342335) rfl rfl (any_of HT_.out (by kernel_rfl)) (fun _ _ _ h => h) (Or.inl ⟨by rfl, ?_⟩) ?_ ?_
    rotate_left
    {
      intro w'
      go_simp
      with_reducible rfl
    }
    rotate_left
    {
      simp only [Act.put, List.setIfInBounds_toArray, List.set_cons_zero, List.set_cons_succ, i64_w, i32_w]
      rfl
    }
    exact nrm_ (aB (g5, aa, ab, none, 0) _ ⟨(S.call N4.out hi hb hk), (X.call hk), (row_call S L (by decide) hk)⟩)
  · clear S
    rintro ⟨g5, aa, ab, Ad, cd⟩ db ⟨S, X⟩
    refine norm_ (a' := ?_) ?_ ?_
    rotate_left
    {
      simp only [putAll, Act.put, List.setIfInBounds_toArray, List.set_cons_zero, List.set_cons_succ]
      rfl
    }
    refine two_ (i := 7) (j := 10) (Ni := some 15) (Nj := some 18) (m25 9341439) (m25 9342335) rfl rfl rfl rfl (two_of HT_.out (by kernel_rfl)) (by decide) (by decide) (fun K hK => ?_) (fun K hK => ?_)
    · skip
      refine goes_ Try.func55 (by kernel_rfl) rfl #[.pointer (some ⟨g, 0, none⟩)] (by rfl) rfl rfl wT ?_
      with_reducible refine (spec_l01Seq.calls g c p2 t2  n3 p3 t3 w0 _ S.i S.b E3.out).mono ?_
      rintro e dc ⟨rfl, hi, hb, hk⟩
      refine ⟨_, rfl, ?_⟩
      refine hK.out _ _ trivial (fun _ => ?_)
      clear hK K
      refine norm_ (a' := ?_) ?_ ?_
      rotate_left
      {
        show Act.put _ (some 15) _ = _
        simp only [Act.put, List.setIfInBounds_toArray, List.set_cons_zero, List.set_cons_succ, i64_w, i32_w]
        rfl
      }
      exact nrm_ (aK (g5, ⟨0, 0, none⟩, 0, none, 0) _ ⟨(S.call N4.out hi hb hk), (X.call hk)⟩)
    · skip
      refine Kd.R_lit_step (Kd.int .i64) _ 2 ?hg (N := 18) ?hd (xs := ([2, 18, 16, 24, 17, 4, 20, 0] : List Int)) (inner := [.int .i64 2, .int .i64 18, .int .i64 16, .int .i64 24, .int .i64 17, .int .i64 4, .int .i64 20, .int .i64 0]) (ok := fun _ => True) (okp := fun _ => True) ?hr (spec_l11Draw.lit _ _ _) (fun _ hk => hk) trivial (Below.refl _ _) (Nat.le_refl _) (by simp) ?_; (case hd => rfl); (case hg => rfl); (case hr => first | (go_simp; done) | (go_simp; rfl))
      intro ax a8 ho hb _ _
      rw [← HFL.out] at ho
      replace ho := Kd.R_lower ho (keep_size S.2.2.1)
      obtain ⟨Al, ab, el⟩ := Kd.R_slice ho
      subst el
      obtain ⟨aa, fo, _⟩ := Kd.at_int (Kd.R_reads' ho).2.2 0 (by decide) (by rw [HFN.out]; decide)
      subst fo
      refine hK.out _ _ trivial (fun _ => ?_)
      clear hK K
      refine norm_ (a' := ?_) ?_ ?_
      rotate_left
      {
        show Act.put _ (some 18) _ = _
        simp only [Act.put, List.setIfInBounds_toArray, List.set_cons_zero, List.set_cons_succ, i64_w, i32_w]
        rfl
      }
      exact nrm_ (aB (g5, aa, ab, none, 0) _ ⟨(S.made hb), (X.made hb), ho⟩)
  · clear S
    rintro ⟨g5, aa, ab, Ad, cd⟩ a9 ⟨S, L⟩
    refine norm_ (a' := ?_) ?_ ?_
    rotate_left
    {
      simp only [putAll, Act.put, List.setIfInBounds_toArray, List.set_cons_zero, List.set_cons_succ]
      rfl
    }
    refine two_ (i := 7) (j := 23) (Ni := some 15) (Nj := some 5) (m25 953855) (m25 9342335) rfl rfl rfl rfl (two_of HT_.out (by kernel_rfl)) (by decide) (by decide) (fun K hK => ?_) (fun K hK => ?_)
    · skip
      refine goes_ Try.func55 (by kernel_rfl) rfl #[.pointer (some ⟨g, 0, none⟩)] (by rfl) rfl rfl wT ?_
      with_reducible refine (spec_l01Seq.calls g c p2 t2  n3 p3 t3 w0 _ S.i S.b E3.out).mono ?_
      rintro e ba ⟨rfl, hi, hb, hk⟩
      refine ⟨_, rfl, ?_⟩
      refine hK.out _ _ trivial (fun _ => ?_)
      clear hK K
      refine norm_ (a' := ?_) ?_ ?_
      rotate_left
      {
        show Act.put _ (some 15) _ = _
        simp only [Act.put, List.setIfInBounds_toArray, List.set_cons_zero, List.set_cons_succ, i64_w, i32_w]
        rfl
      }
      exact nrm_ (aM (0, aa, ab, none, 0) _ ⟨(S.call N4.out hi hb hk), (row_call S L (by decide) hk)⟩)
    · skip
      refine box_step ?hg (N := 5) ?hd (cs := #[.int .i64 0, .int .i64 0, .int .i64 0, .int .i64 0, .int .i64 0, .int .i64 0, .int .i64 0, .bool false, .int .i64 0, .bool false, .slice none 0 0, .slice none 0 0]) (t := 25) ?hr ?_; (case hd => rfl); (case hg => rfl); (case hr => first | (go_simp; done) | (go_simp; rfl))
      intro g5 hg bb hbox hb
      have hg_ := Aside0.mk hg
      clear hg
      refine hK.out _ _ trivial (fun _ => ?_)
      clear hK K
      refine norm_ (a' := ?_) ?_ ?_
      rotate_left
      {
        show Act.put _ (some 5) _ = _
        simp only [Act.put, List.setIfInBounds_toArray, List.set_cons_zero, List.set_cons_succ, i64_w, i32_w]
        rfl
      }
      exact nrm_ (aB (g5, aa, ab, none, 0) _ ⟨(S.made hb), (spec_l11Draw.Bx_new S HW0.out hg_.out hbox), (Kd.R_below L hb)⟩)
  · clear S
    rintro ⟨g5, aa, ab, Ad, cd⟩ bc S
    refine norm_ (a' := ?_) ?_ ?_
    rotate_left
    {
      simp only [putAll, Act.put, List.setIfInBounds_toArray, List.set_cons_zero, List.set_cons_succ]
      rfl
    }
    refine three_ (i := 9) (j := 10) (k := 23) (Ni := some 17) (Nj := some 18) (Nk := some 5) (m25 953343) (m25 953855) (m25 9341439) rfl rfl rfl rfl rfl rfl (three_of HT_.out (by kernel_rfl)) (by decide) (by decide) (by decide) (fun K hK => ?_) (fun K hK => ?_) (fun K hK => ?_)
    · skip
      refine goes_ Try.func55 (by kernel_rfl) rfl #[.pointer (some ⟨g, 0, none⟩)] (by rfl) rfl rfl wT ?_
      with_reducible refine (spec_l01Seq.calls g c p3 t3  n4 p4 t4 w0 _ S.i S.b E4.out).mono ?_
      rintro e bd ⟨rfl, hi, hb, hk⟩
      refine ⟨_, rfl, ?_⟩
      refine hK.out _ _ trivial (fun _ => ?_)
      clear hK K
      refine norm_ (a' := ?_) ?_ ?_
      rotate_left
      {
        show Act.put _ (some 17) _ = _
        simp only [Act.put, List.setIfInBounds_toArray, List.set_cons_zero, List.set_cons_succ, i64_w, i32_w]
        rfl
      }
      exact nrm_ (aY (0, ⟨0, 0, none⟩, 0, none, 0) _ (S.call N4.out hi hb hk))
    · skip
      refine Kd.R_lit_step (Kd.int .i64) _ 2 ?hg (N := 18) ?hd (xs := ([2, 18, 16, 24, 17, 4, 20, 0] : List Int)) (inner := [.int .i64 2, .int .i64 18, .int .i64 16, .int .i64 24, .int .i64 17, .int .i64 4, .int .i64 20, .int .i64 0]) (ok := fun _ => True) (okp := fun _ => True) ?hr (spec_l11Draw.lit _ _ _) (fun _ hk => hk) trivial (Below.refl _ _) (Nat.le_refl _) (by simp) ?_; (case hd => rfl); (case hg => rfl); (case hr => first | (go_simp; done) | (go_simp; rfl))
      intro ax bf ho hb _ _
      rw [← HFL.out] at ho
      replace ho := Kd.R_lower ho (keep_size S.2.2.1)
      obtain ⟨Al, ab, el⟩ := Kd.R_slice ho
      subst el
      obtain ⟨aa, fo, _⟩ := Kd.at_int (Kd.R_reads' ho).2.2 0 (by decide) (by rw [HFN.out]; decide)
      subst fo
      refine hK.out _ _ trivial (fun _ => ?_)
      clear hK K
      refine norm_ (a' := ?_) ?_ ?_
      rotate_left
      {
        show Act.put _ (some 18) _ = _
        simp only [Act.put, List.setIfInBounds_toArray, List.set_cons_zero, List.set_cons_succ, i64_w, i32_w]
        rfl
      }
      exact nrm_ (aM (0, aa, ab, none, 0) _ ⟨(S.made hb), ho⟩)
    · skip
      refine box_step ?hg (N := 5) ?hd (cs := #[.int .i64 0, .int .i64 0, .int .i64 0, .int .i64 0, .int .i64 0, .int .i64 0, .int .i64 0, .bool false, .int .i64 0, .bool false, .slice none 0 0, .slice none 0 0]) (t := 25) ?hr ?_; (case hd => rfl); (case hg => rfl); (case hr => first | (go_simp; done) | (go_simp; rfl))
      intro g5 hg bg hbox hb
      have hg_ := Aside0.mk hg
      clear hg
      refine hK.out _ _ trivial (fun _ => ?_)
      clear hK K
      refine norm_ (a' := ?_) ?_ ?_
      rotate_left
      {
        show Act.put _ (some 5) _ = _
        simp only [Act.put, List.setIfInBounds_toArray, List.set_cons_zero, List.set_cons_succ, i64_w, i32_w]
        rfl
      }
      exact nrm_ (aK (g5, ⟨0, 0, none⟩, 0, none, 0) _ ⟨(S.made hb), (spec_l11Draw.Bx_new S HW0.out hg_.out hbox)⟩)
  · clear S
    rintro ⟨g5, aa, ab, Ad, cd⟩ bh ⟨S, X, L⟩
    refine norm_ (a' := ?_) ?_ ?_
    rotate_left
    {
      simp only [putAll, Act.put, List.setIfInBounds_toArray, List.set_cons_zero, List.set_cons_succ]
      rfl
    }
    refine one_ (i := 1) (N := some 9) (m25 9342283) rfl rfl (one_of HT_.out (by kernel_rfl)) (by decide) (fun K hK => ?_)
    refine goes_ Try.func40 (by kernel_rfl) rfl #[.pointer (some ⟨g, 0, none⟩), .int .i64 2] (by rfl) rfl rfl wT ?_
    with_reducible refine (spec_l01Next.calls g c p t 2 n1 p1 t1 w0 _ S.i S.b E1.out).mono ?_
    rintro e bi ⟨rfl, hi, hb, hk⟩
    refine ⟨_, rfl, ?_⟩
    refine hK.out _ _ trivial (fun _ => ?_)
    clear hK K
    refine norm_ (a' := ?_) ?_ ?_
    rotate_left
    {
      show Act.put _ (some 9) _ = _
      simp only [Act.put, List.setIfInBounds_toArray, List.set_cons_zero, List.set_cons_succ, i64_w, i32_w]
      rfl
    }
    refine pure_ (i := 2) (N := some 10) (v := ?_) (a' := ?_) (m25 9342287) rfl rfl (any_of HT_.out (by kernel_rfl)) (fun _ _ _ h => h) (Or.inl ⟨by rfl, ?_⟩) ?_ ?_
    rotate_left
    {
      intro w'
      go_simp
      with_reducible rfl
    }
    rotate_left
    {
      simp only [Act.put, List.setIfInBounds_toArray, List.set_cons_zero, List.set_cons_succ, i64_w, i32_w]
      rfl
    }
    exact nrm_ (aI (g5, aa, ab, none, 0) _ ⟨(S.call N4.out hi hb hk), (X.call hk), (row_call S L (by decide) hk)⟩)
  · clear S
    rintro ⟨g5, aa, ab, Ad, cd⟩ bj ⟨S, X⟩
    refine norm_ (a' := ?_) ?_ ?_
    rotate_left
    {
      simp only [putAll, Act.put, List.setIfInBounds_toArray, List.set_cons_zero, List.set_cons_succ]
      rfl
    }
    refine two_ (i := 4) (j := 10) (Ni := some 12) (Nj := some 18) (m25 9341279) (m25 9342287) rfl rfl rfl rfl (two_of HT_.out (by kernel_rfl)) (by decide) (by decide) (fun K hK => ?_) (fun K hK => ?_)
    · skip
      refine goes_ Try.func40 (by kernel_rfl) rfl #[.pointer (some ⟨g, 0, none⟩), .int .i64 4] (by rfl) rfl rfl wT ?_
      with_reducible refine (spec_l01Next.calls g c p1 t1 4 n2 p2 t2 w0 _ S.i S.b E2.out).mono ?_
      rintro e bk ⟨rfl, hi, hb, hk⟩
      refine ⟨_, rfl, ?_⟩
      refine hK.out _ _ trivial (fun _ => ?_)
      clear hK K
      refine norm_ (a' := ?_) ?_ ?_
      rotate_left
      {
        show Act.put _ (some 12) _ = _
        simp only [Act.put, List.setIfInBounds_toArray, List.set_cons_zero, List.set_cons_succ, i64_w, i32_w]
        rfl
      }
      refine pure_ (i := 5) (N := some 13) (v := ?_) (a' := ?_) (m25 9341311) rfl rfl (any_of HT_.out (by kernel_rfl)) (fun _ _ _ h => h) (Or.inl ⟨by rfl, ?_⟩) ?_ ?_
      rotate_left
      {
        intro w'
        go_simp
        with_reducible rfl
      }
      rotate_left
      {
        simp only [Act.put, List.setIfInBounds_toArray, List.set_cons_zero, List.set_cons_succ, i64_w, i32_w]
        rfl
      }
      exact nrm_ (aQ (g5, ⟨0, 0, none⟩, 0, none, 0) _ ⟨(S.call N4.out hi hb hk), (X.call hk)⟩)
    · skip
      refine Kd.R_lit_step (Kd.int .i64) _ 2 ?hg (N := 18) ?hd (xs := ([2, 18, 16, 24, 17, 4, 20, 0] : List Int)) (inner := [.int .i64 2, .int .i64 18, .int .i64 16, .int .i64 24, .int .i64 17, .int .i64 4, .int .i64 20, .int .i64 0]) (ok := fun _ => True) (okp := fun _ => True) ?hr (spec_l11Draw.lit _ _ _) (fun _ hk => hk) trivial (Below.refl _ _) (Nat.le_refl _) (by simp) ?_; (case hd => rfl); (case hg => rfl); (case hr => first | (go_simp; done) | (go_simp; rfl))
      intro ax bl ho hb _ _
      rw [← HFL.out] at ho
      replace ho := Kd.R_lower ho (keep_size S.2.2.1)
      obtain ⟨Al, ab, el⟩ := Kd.R_slice ho
      subst el
      obtain ⟨aa, fo, _⟩ := Kd.at_int (Kd.R_reads' ho).2.2 0 (by decide) (by rw [HFN.out]; decide)
      subst fo
      refine hK.out _ _ trivial (fun _ => ?_)
      clear hK K
      refine norm_ (a' := ?_) ?_ ?_
      rotate_left
      {
        show Act.put _ (some 18) _ = _
        simp only [Act.put, List.setIfInBounds_toArray, List.set_cons_zero, List.set_cons_succ, i64_w, i32_w]
        rfl
      }
      exact nrm_ (aI (g5, aa, ab, none, 0) _ ⟨(S.made hb), (X.made hb), ho⟩)
  · clear S
    rintro ⟨g5, aa, ab, Ad, cd⟩ bm ⟨S, L⟩
    refine norm_ (a' := ?_) ?_ ?_
    rotate_left
    {
      simp only [putAll, Act.put, List.setIfInBounds_toArray, List.set_cons_zero, List.set_cons_succ]
      rfl
    }
    refine two_ (i := 4) (j := 23) (Ni := some 12) (Nj := some 5) (m25 953695) (m25 9342287) rfl rfl rfl rfl (two_of HT_.out (by kernel_rfl)) (by decide) (by decide) (fun K hK => ?_) (fun K hK => ?_)
    · skip
      refine goes_ Try.func40 (by kernel_rfl) rfl #[.pointer (some ⟨g, 0, none⟩), .int .i64 4] (by rfl) rfl rfl wT ?_
      with_reducible refine (spec_l01Next.calls g c p1 t1 4 n2 p2 t2 w0 _ S.i S.b E2.out).mono ?_
      rintro e bn ⟨rfl, hi, hb, hk⟩
      refine ⟨_, rfl, ?_⟩
      refine hK.out _ _ trivial (fun _ => ?_)
      clear hK K
      refine norm_ (a' := ?_) ?_ ?_
      rotate_left
      {
        show Act.put _ (some 12) _ = _
        simp only [Act.put, List.setIfInBounds_toArray, List.set_cons_zero, List.set_cons_succ, i64_w, i32_w]
        rfl
      }
      refine pure_ (i := 5) (N := some 13) (v := ?_) (a' := ?_) (m25 953727) rfl rfl (any_of HT_.out (by kernel_rfl)) (fun _ _ _ h => h) (Or.inl ⟨by rfl, ?_⟩) ?_ ?_
      rotate_left
      {
        intro w'
        go_simp
        with_reducible rfl
      }
      rotate_left
      {
        simp only [Act.put, List.setIfInBounds_toArray, List.set_cons_zero, List.set_cons_succ, i64_w, i32_w]
        rfl
      }
      exact nrm_ (aR (0, aa, ab, none, 0) _ ⟨(S.call N4.out hi hb hk), (row_call S L (by decide) hk)⟩)
    · skip
      refine box_step ?hg (N := 5) ?hd (cs := #[.int .i64 0, .int .i64 0, .int .i64 0, .int .i64 0, .int .i64 0, .int .i64 0, .int .i64 0, .bool false, .int .i64 0, .bool false, .slice none 0 0, .slice none 0 0]) (t := 25) ?hr ?_; (case hd => rfl); (case hg => rfl); (case hr => first | (go_simp; done) | (go_simp; rfl))
      intro g5 hg bo hbox hb
      have hg_ := Aside0.mk hg
      clear hg
      refine hK.out _ _ trivial (fun _ => ?_)
      clear hK K
      refine norm_ (a' := ?_) ?_ ?_
      rotate_left
      {
        show Act.put _ (some 5) _ = _
        simp only [Act.put, List.setIfInBounds_toArray, List.set_cons_zero, List.set_cons_succ, i64_w, i32_w]
        rfl
      }
      exact nrm_ (aI (g5, aa, ab, none, 0) _ ⟨(S.made hb), (spec_l11Draw.Bx_new S HW0.out hg_.out hbox), (Kd.R_below L hb)⟩)
  · clear S
    rintro ⟨g5, aa, ab, Ad, cd⟩ bp S
    refine norm_ (a' := ?_) ?_ ?_
    rotate_left
    {
      simp only [putAll, Act.put, List.setIfInBounds_toArray, List.set_cons_zero, List.set_cons_succ]
      rfl
    }
    refine three_ (i := 7) (j := 10) (k := 23) (Ni := some 15) (Nj := some 18) (Nk := some 5) (m25 952831) (m25 953727) (m25 9341311) rfl rfl rfl rfl rfl rfl (three_of HT_.out (by kernel_rfl)) (by decide) (by decide) (by decide) (fun K hK => ?_) (fun K hK => ?_) (fun K hK => ?_)
    · skip
      refine goes_ Try.func55 (by kernel_rfl) rfl #[.pointer (some ⟨g, 0, none⟩)] (by rfl) rfl rfl wT ?_
      with_reducible refine (spec_l01Seq.calls g c p2 t2  n3 p3 t3 w0 _ S.i S.b E3.out).mono ?_
      rintro e bq ⟨rfl, hi, hb, hk⟩
      refine ⟨_, rfl, ?_⟩
      refine hK.out _ _ trivial (fun _ => ?_)
      clear hK K
      refine norm_ (a' := ?_) ?_ ?_
      rotate_left
      {
        show Act.put _ (some 15) _ = _
        simp only [Act.put, List.setIfInBounds_toArray, List.set_cons_zero, List.set_cons_succ, i64_w, i32_w]
        rfl
      }
      exact nrm_ (a1 (0, ⟨0, 0, none⟩, 0, none, 0) _ (S.call N4.out hi hb hk))
    · skip
      refine Kd.R_lit_step (Kd.int .i64) _ 2 ?hg (N := 18) ?hd (xs := ([2, 18, 16, 24, 17, 4, 20, 0] : List Int)) (inner := [.int .i64 2, .int .i64 18, .int .i64 16, .int .i64 24, .int .i64 17, .int .i64 4, .int .i64 20, .int .i64 0]) (ok := fun _ => True) (okp := fun _ => True) ?hr (spec_l11Draw.lit _ _ _) (fun _ hk => hk) trivial (Below.refl _ _) (Nat.le_refl _) (by simp) ?_; (case hd => rfl); (case hg => rfl); (case hr => first | (go_simp; done) | (go_simp; rfl))
      intro ax br ho hb _ _
      rw [← HFL.out] at ho
      replace ho := Kd.R_lower ho (keep_size S.2.2.1)
      obtain ⟨Al, ab, el⟩ := Kd.R_slice ho
      subst el
      obtain ⟨aa, fo, _⟩ := Kd.at_int (Kd.R_reads' ho).2.2 0 (by decide) (by rw [HFN.out]; decide)
      subst fo
      refine hK.out _ _ trivial (fun _ => ?_)
      clear hK K
      refine norm_ (a' := ?_) ?_ ?_
      rotate_left
      {
        show Act.put _ (some 18) _ = _
        simp only [Act.put, List.setIfInBounds_toArray, List.set_cons_zero, List.set_cons_succ, i64_w, i32_w]
        rfl
      }
      exact nrm_ (aR (0, aa, ab, none, 0) _ ⟨(S.made hb), ho⟩)
    · skip
      refine box_step ?hg (N := 5) ?hd (cs := #[.int .i64 0, .int .i64 0, .int .i64 0, .int .i64 0, .int .i64 0, .int .i64 0, .int .i64 0, .bool false, .int .i64 0, .bool false, .slice none 0 0, .slice none 0 0]) (t := 25) ?hr ?_; (case hd => rfl); (case hg => rfl); (case hr => first | (go_simp; done) | (go_simp; rfl))
      intro g5 hg bs hbox hb
      have hg_ := Aside0.mk hg
      clear hg
      refine hK.out _ _ trivial (fun _ => ?_)
      clear hK K
      refine norm_ (a' := ?_) ?_ ?_
      rotate_left
      {
        show Act.put _ (some 5) _ = _
        simp only [Act.put, List.setIfInBounds_toArray, List.set_cons_zero, List.set_cons_succ, i64_w, i32_w]
        rfl
      }
      exact nrm_ (aQ (g5, ⟨0, 0, none⟩, 0, none, 0) _ ⟨(S.made hb), (spec_l11Draw.Bx_new S HW0.out hg_.out hbox)⟩)
  · clear S
    rintro ⟨g5, aa, ab, Ad, cd⟩ bu ⟨S, X⟩
    refine norm_ (a' := ?_) ?_ ?_
    rotate_left
    {
      simp only [putAll, Act.put, List.setIfInBounds_toArray, List.set_cons_zero, List.set_cons_succ]
      rfl
    }
    refine two_ (i := 1) (j := 10) (Ni := some 9) (Nj := some 18) (m25 9341259) (m25 9342281) rfl rfl rfl rfl (two_of HT_.out (by kernel_rfl)) (by decide) (by decide) (fun K hK => ?_) (fun K hK => ?_)
    · skip
      refine goes_ Try.func40 (by kernel_rfl) rfl #[.pointer (some ⟨g, 0, none⟩), .int .i64 2] (by rfl) rfl rfl wT ?_
      with_reducible refine (spec_l01Next.calls g c p t 2 n1 p1 t1 w0 _ S.i S.b E1.out).mono ?_
      rintro e bv ⟨rfl, hi, hb, hk⟩
      refine ⟨_, rfl, ?_⟩
      refine hK.out _ _ trivial (fun _ => ?_)
      clear hK K
      refine norm_ (a' := ?_) ?_ ?_
      rotate_left
      {
        show Act.put _ (some 9) _ = _
        simp only [Act.put, List.setIfInBounds_toArray, List.set_cons_zero, List.set_cons_succ, i64_w, i32_w]
        rfl
      }
      refine pure_ (i := 2) (N := some 10) (v := ?_) (a' := ?_) (m25 9341263) rfl rfl (any_of HT_.out (by kernel_rfl)) (fun _ _ _ h => h) (Or.inl ⟨by rfl, ?_⟩) ?_ ?_
      rotate_left
      {
        intro w'
        go_simp
        with_reducible rfl
      }
      rotate_left
      {
        simp only [Act.put, List.setIfInBounds_toArray, List.set_cons_zero, List.set_cons_succ, i64_w, i32_w]
        rfl
      }
      exact nrm_ (aZ (g5, ⟨0, 0, none⟩, 0, none, 0) _ ⟨(S.call N4.out hi hb hk), (X.call hk)⟩)
    · skip
      refine Kd.R_lit_step (Kd.int .i64) _ 2 ?hg (N := 18) ?hd (xs := ([2, 18, 16, 24, 17, 4, 20, 0] : List Int)) (inner := [.int .i64 2, .int .i64 18, .int .i64 16, .int .i64 24, .int .i64 17, .int .i64 4, .int .i64 20, .int .i64 0]) (ok := fun _ => True) (okp := fun _ => True) ?hr (spec_l11Draw.lit _ _ _) (fun _ hk => hk) trivial (Below.refl _ _) (Nat.le_refl _) (by simp) ?_; (case hd => rfl); (case hg => rfl); (case hr => first | (go_simp; done) | (go_simp; rfl))
      intro ax bw ho hb _ _
      rw [← HFL.out] at ho
      replace ho := Kd.R_lower ho (keep_size S.2.2.1)
      obtain ⟨Al, ab, el⟩ := Kd.R_slice ho
      subst el
      obtain ⟨aa, fo, _⟩ := Kd.at_int (Kd.R_reads' ho).2.2 0 (by decide) (by rw [HFN.out]; decide)
      subst fo
      refine hK.out _ _ trivial (fun _ => ?_)
      clear hK K
      refine norm_ (a' := ?_) ?_ ?_
      rotate_left
      {
        show Act.put _ (some 18) _ = _
        simp only [Act.put, List.setIfInBounds_toArray, List.set_cons_zero, List.set_cons_succ, i64_w, i32_w]
        rfl
      }
      exact nrm_ (aX (g5, aa, ab, none, 0) _ ⟨(S.made hb), (X.made hb), ho⟩)
  · clear S
    rintro ⟨g5, aa, ab, Ad, cd⟩ bx ⟨S, L⟩
    refine norm_ (a' := ?_) ?_ ?_
    rotate_left
    {
      simp only [putAll, Act.put, List.setIfInBounds_toArray, List.set_cons_zero, List.set_cons_succ]
      rfl
    }
    refine two_ (i := 1) (j := 23) (Ni := some 9) (Nj := some 5) (m25 953675) (m25 9342281) rfl rfl rfl rfl (two_of HT_.out (by kernel_rfl)) (by decide) (by decide) (fun K hK => ?_) (fun K hK => ?_)
    · skip
      refine goes_ Try.func40 (by kernel_rfl) rfl #[.pointer (some ⟨g, 0, none⟩), .int .i64 2] (by rfl) rfl rfl wT ?_
      with_reducible refine (spec_l01Next.calls g c p t 2 n1 p1 t1 w0 _ S.i S.b E1.out).mono ?_
      rintro e bz ⟨rfl, hi, hb, hk⟩
      refine ⟨_, rfl, ?_⟩
      refine hK.out _ _ trivial (fun _ => ?_)
      clear hK K
      refine norm_ (a' := ?_) ?_ ?_
      rotate_left
      {
        show Act.put _ (some 9) _ = _
        simp only [Act.put, List.setIfInBounds_toArray, List.set_cons_zero, List.set_cons_succ, i64_w, i32_w]
        rfl
      }
      refine pure_ (i := 2) (N := some 10) (v := ?_) (a' := ?_) (m25 953679) rfl rfl (any_of HT_.out (by kernel_rfl)) (fun _ _ _ h => h) (Or.inl ⟨by rfl, ?_⟩) ?_ ?_
      rotate_left
      {
        intro w'
        go_simp
        with_reducible rfl
      }
      rotate_left
      {
        simp only [Act.put, List.setIfInBounds_toArray, List.set_cons_zero, List.set_cons_succ, i64_w, i32_w]
        rfl
      }
      exact nrm_ (a0 (0, aa, ab, none, 0) _ ⟨(S.call N4.out hi hb hk), (row_call S L (by decide) hk)⟩)
    · skip
      refine box_step ?hg (N := 5) ?hd (cs := #[.int .i64 0, .int .i64 0, .int .i64 0, .int .i64 0, .int .i64 0, .int .i64 0, .int .i64 0, .bool false, .int .i64 0, .bool false, .slice none 0 0, .slice none 0 0]) (t := 25) ?hr ?_; (case hd => rfl); (case hg => rfl); (case hr => first | (go_simp; done) | (go_simp; rfl))
      intro g5 hg bA hbox hb
      have hg_ := Aside0.mk hg
      clear hg
      refine hK.out _ _ trivial (fun _ => ?_)
      clear hK K
      refine norm_ (a' := ?_) ?_ ?_
      rotate_left
      {
        show Act.put _ (some 5) _ = _
        simp only [Act.put, List.setIfInBounds_toArray, List.set_cons_zero, List.set_cons_succ, i64_w, i32_w]
        rfl
      }
      exact nrm_ (aX (g5, aa, ab, none, 0) _ ⟨(S.made hb), (spec_l11Draw.Bx_new S HW0.out hg_.out hbox), (Kd.R_below L hb)⟩)
  · clear S
    rintro ⟨g5, aa, ab, Ad, cd⟩ bB S
    refine norm_ (a' := ?_) ?_ ?_
    rotate_left
    {
      simp only [putAll, Act.put, List.setIfInBounds_toArray, List.set_cons_zero, List.set_cons_succ]
      rfl
    }
    refine three_ (i := 4) (j := 10) (k := 23) (Ni := some 12) (Nj := some 18) (Nk := some 5) (m25 952671) (m25 953679) (m25 9341263) rfl rfl rfl rfl rfl rfl (three_of HT_.out (by kernel_rfl)) (by decide) (by decide) (by decide) (fun K hK => ?_) (fun K hK => ?_) (fun K hK => ?_)
    · skip
      refine goes_ Try.func40 (by kernel_rfl) rfl #[.pointer (some ⟨g, 0, none⟩), .int .i64 4] (by rfl) rfl rfl wT ?_
      with_reducible refine (spec_l01Next.calls g c p1 t1 4 n2 p2 t2 w0 _ S.i S.b E2.out).mono ?_
      rintro e bC ⟨rfl, hi, hb, hk⟩
      refine ⟨_, rfl, ?_⟩
      refine hK.out _ _ trivial (fun _ => ?_)
      clear hK K
      refine norm_ (a' := ?_) ?_ ?_
      rotate_left
      {
        show Act.put _ (some 12) _ = _
        simp only [Act.put, List.setIfInBounds_toArray, List.set_cons_zero, List.set_cons_succ, i64_w, i32_w]
        rfl
      }
      refine pure_ (i := 5) (N := some 13) (v := ?_) (a' := ?_) (m25 952703) rfl rfl (any_of HT_.out (by kernel_rfl)) (fun _ _ _ h => h) (Or.inl ⟨by rfl, ?_⟩) ?_ ?_
      rotate_left
      {
        intro w'
        go_simp
        with_reducible rfl
      }
      rotate_left
      {
        simp only [Act.put, List.setIfInBounds_toArray, List.set_cons_zero, List.set_cons_succ, i64_w, i32_w]
        rfl
      }
      exact nrm_ (a2 (0, ⟨0, 0, none⟩, 0, none, 0) _ (S.call N4.out hi hb hk))
    · skip
      refine Kd.R_lit_step (Kd.int .i64) _ 2 ?hg (N := 18) ?hd (xs := ([2, 18, 16, 24, 17, 4, 20, 0] : List Int)) (inner := [.int .i64 2, .int .i64 18, .int .i64 16, .int .i64 24, .int .i64 17, .int .i64 4, .int .i64 20, .int .i64 0]) (ok := fun _ => True) (okp := fun _ => True) ?hr (spec_l11Draw.lit _ _ _) (fun _ hk => hk) trivial (Below.refl _ _) (Nat.le_refl _) (by simp) ?_; (case hd => rfl); (case hg => rfl); (case hr => first | (go_simp; done) | (go_simp; rfl))
      intro ax bD ho hb _ _
      rw [← HFL.out] at ho
      replace ho := Kd.R_lower ho (keep_size S.2.2.1)
      obtain ⟨Al, ab, el⟩ := Kd.R_slice ho
      subst el
      obtain ⟨aa, fo, _⟩ := Kd.at_int (Kd.R_reads' ho).2.2 0 (by decide) (by rw [HFN.out]; decide)
      subst fo
      refine hK.out _ _ trivial (fun _ => ?_)
      clear hK K
      refine norm_ (a' := ?_) ?_ ?_
      rotate_left
      {
        show Act.put _ (some 18) _ = _
        simp only [Act.put, List.setIfInBounds_toArray, List.set_cons_zero, List.set_cons_succ, i64_w, i32_w]
        rfl
      }
      exact nrm_ (a0 (0, aa, ab, none, 0) _ ⟨(S.made hb), ho⟩)
    · skip
      refine box_step ?hg (N := 5) ?hd (cs := #[.int .i64 0, .int .i64 0, .int .i64 0, .int .i64 0, .int .i64 0, .int .i64 0, .int .i64 0, .bool false, .int .i64 0, .bool false, .slice none 0 0, .slice none 0 0]) (t := 25) ?hr ?_; (case hd => rfl); (case hg => rfl); (case hr => first | (go_simp; done) | (go_simp; rfl))
      intro g5 hg bE hbox hb
      have hg_ := Aside0.mk hg
      clear hg
      refine hK.out _ _ trivial (fun _ => ?_)
      clear hK K
      refine norm_ (a' := ?_) ?_ ?_
      rotate_left
      {
        show Act.put _ (some 5) _ = _
        simp only [Act.put, List.setIfInBounds_toArray, List.set_cons_zero, List.set_cons_succ, i64_w, i32_w]
        rfl
      }
      exact nrm_ (aZ (g5, ⟨0, 0, none⟩, 0, none, 0) _ ⟨(S.made hb), (spec_l11Draw.Bx_new S HW0.out hg_.out hbox)⟩)
theorem spec_l11Draw.calls (k : Nat) (g : Nat) (c : List Int) (p t most : Int) (r0 : Int) (r1 : Int) (r2 : Int) (r3 : Int) (r4 : Int) (r5 : Int) (r6 : Int) (r7 : Bool) (r8 : Int) (r9 : Bool) (aa : List (S60)) (ab : List Int) (ac : Int) (ad : Int) (w0 w : World) (hI : IsS64 w0 w g c p t) (hB : Below w0.heap.size w0 w) (h : spec_l11Draw.f k c p t most = some (r0, r1, r2, r3, r4, r5, r6, r7, r8, r9, aa, ab, ac, ad)) :
    Calls Try.prog 46 #[.pointer (some ⟨g, 0, none⟩), .int .i64 most] w fun e w' => ∃ v10_ v11_ : Value, e = .returned (.agg #[.int .i64 r0, .int .i64 r1, .int .i64 r2, .int .i64 r3, .int .i64 r4, .int .i64 r5, .int .i64 r6, .bool r7, .int .i64 r8, .bool r9, v10_, v11_]) ∧ Kd.R k60 60 w' w.heap.size (fun _ => True) v10_ aa ∧ Kd.R (Kd.int .u8) 5 w' w.heap.size (fun _ => True) v11_ ab ∧ IsS64 w0 w' g c ac ad ∧ Below w0.heap.size w0 w' ∧ KeepBut w w' g none := (spec_l11Draw.walk k g c p t most r0 r1 r2 r3 r4 r5 r6 r7 r8 r9 aa ab ac ad w0 w hI hB h).mono fun _ _ h => h


end Go.Proofs.Ytfllcmeakcbiaaa.PFnOneBit
