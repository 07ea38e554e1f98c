-- Written for this claim by a program of this session (wip/mkprint.py: the print, turned at a few places). Not trusted: Lean checks it.
import Derived.Test.YtfllcmeakcbiaaaPFnOneBitx0
import Derived.Test.YtfllcmeakcbiaaaPFnOneBitx1
namespace Go.Proofs.Ytfllcmeakcbiaaa.PFnOneBit
open Go.RowKit Go.Proofs.YtfllcmeakcbiaaaW.PrintWords Go.Proofs.YtfllcmeakcbiaaaW.PrintLast Go.Proofs.YtfllcmeakcbiaaaW.PrintMore
attribute [local go_sem] max2_int min2_int max_two min_two max_three min_three max_four min_four   -- for this text's walks alone
set_option linter.unusedVariables false
set_option linter.unusedSimpArgs false

/-- A state of type 36 at block g of W; what its slices lead to came in by w0. -/
def IsS36 (w0 W : World) (g : Nat) (f0 : List Int) (f1 : Int) (f2 : Int) : Prop := ∃ A0 c0, W.heap[g]? = some (.cells #[.slice A0 f0.length c0, .int .i64 f1, .int .u64 f2] 36 (0, 0)) ∧ w0.heap.size ≤ g ∧ Kd.C (Kd.int .u8) w0 A0 f0.length f0
theorem IsS36.grown {w0 W : World} {g : Nat} {f0 : List Int} {f1 : Int} {f2 : Int} {W1 : World} {row : Option Nat} (h : IsS36 w0 W g f0 f1 f2) (hw : W.grownBy W1 row) (hne : some g ≠ row) : IsS36 w0 W1 g f0 f1 f2 := by
 obtain ⟨A0, c0, hb, hg, hr0⟩ := h
 exact ⟨A0, c0, blk_grown hb hw hne, hg, hr0⟩
theorem IsS36.own_neN {w0 W : World} {g : Nat} {f0 : List Int} {f1 : Int} {f2 : Int} {α : Type} {d : Kd α} {e : Nat} {base : Nat} {ok : Nat → Prop} {v : Value} {xs : List α} (h : IsS36 w0 W g f0 f1 f2) (ho : Kd.N d e W base ok v xs) (ht : e ≠ 36) : some g ≠ v.ownBlock := by
 obtain ⟨A0, c0, hb, hg, hr0⟩ := h
 exact Kd.N_ne ho hb ht
theorem IsS36.fresh {w0 W : World} {g : Nat} {f0 : List Int} {f1 : Int} {f2 : Int} (h : IsS36 w0 W g f0 f1 f2) : ∀ k, W.heap.size ≤ k → k ≠ g := by
 obtain ⟨A0, c0, hb, hg, hr0⟩ := h
 exact Kd.freshB hb
theorem IsS36.kept {w0 W : World} {g : Nat} {f0 : List Int} {f1 : Int} {f2 : Int} {W1 : World} {S : Nat → Prop} (h : IsS36 w0 W g f0 f1 f2) (hk : Kept W W1 S) (hne : ¬ S g) : IsS36 w0 W1 g f0 f1 f2 := by
 obtain ⟨A0, c0, hb, hg, hr0⟩ := h
 exact ⟨A0, c0, blk_kept hb hk hne, hg, hr0⟩
theorem IsS36.below {w0 W : World} {g : Nat} {f0 : List Int} {f1 : Int} {f2 : Int} {W1 : World} (h : IsS36 w0 W g f0 f1 f2) (hw : Below W.heap.size W W1) : IsS36 w0 W1 g f0 f1 f2 := h.grown (grown_of_below hw none) (by simp)
theorem IsS36.alloc {w0 W : World} {g : Nat} {f0 : List Int} {f1 : Int} {f2 : Int} (h : IsS36 w0 W g f0 f1 f2) (o : Obj) : IsS36 w0 (W.alloc o) g f0 f1 f2 := h.below (below_alloc (Below.refl _ _) o)
theorem IsS36.drewN {w0 W : World} {g : Nat} {f0 : List Int} {f1 : Int} {f2 : Int} (h : IsS36 w0 W g f0 f1 f2) (m : Nat) : IsS36 w0 (W.drewN m) g f0 f1 f2 := h
theorem IsS36.drew {w0 W : World} {g : Nat} {f0 : List Int} {f1 : Int} {f2 : Int} (h : IsS36 w0 W g f0 f1 f2) : IsS36 w0 W.drew g f0 f1 f2 := h
theorem IsS36.at_ {w0 W : World} {g : Nat} {f0 : List Int} {f1 : Int} {f2 : Int} {w' : World} {m : Nat} (hq : W.drewN m = w') (h : IsS36 w0 W g f0 f1 f2) : IsS36 w0 w' g f0 f1 f2 := by subst hq; exact IsS36.drewN h m
theorem IsS36.apart {w0 W : World} {g : Nat} {f0 : List Int} {f1 : Int} {f2 : Int} {α : Type} {d : Kd α} {e : Nat} {base : Nat} {ok : Nat → Prop} {v : Value} {xs : List α} (h : IsS36 w0 W g f0 f1 f2) (ho : d.R e W base ok v xs) (ht : ∀ q, q ∈ e :: d.E → q ≠ 36) : d.R e W base (fun k => ok k ∧ k ≠ g) v xs := by
 obtain ⟨A0, c0, hb, hg, hr0⟩ := h
 exact Kd.R_types ho hb ht
theorem IsS36.own_ne {w0 W : World} {g : Nat} {f0 : List Int} {f1 : Int} {f2 : Int} {α : Type} {d : Kd α} {e : Nat} {base : Nat} {ok : Nat → Prop} {v : Value} {xs : List α} (h : IsS36 w0 W g f0 f1 f2) (ho : d.R e W base ok v xs) (ht : e ≠ 36) : some g ≠ v.ownBlock := by
 obtain ⟨A0, c0, hb, hg, hr0⟩ := h
 exact Kd.R_ne ho hb ht
theorem IsS36.apartQ {w0 W : World} {g : Nat} {f0 : List Int} {f1 : Int} {f2 : Int} {α : Type} {d : Kd α} {e : Nat} {base : Nat} {ok : Nat → Prop} {v : Value} {xs : List α} (h : IsS36 w0 W g f0 f1 f2) (ho : d.Q e W base ok v xs) (ht : ∀ q, q ∈ e :: d.E → q ≠ 36) : d.Q e W base (fun k => ok k ∧ k ≠ g) v xs := by
 obtain ⟨A0, c0, hb, hg, hr0⟩ := h
 exact Kd.Q_types ho hb ht
theorem IsS36.own_neQ {w0 W : World} {g : Nat} {f0 : List Int} {f1 : Int} {f2 : Int} {α : Type} {d : Kd α} {e : Nat} {base : Nat} {ok : Nat → Prop} {v : Value} {xs : List α} (h : IsS36 w0 W g f0 f1 f2) (ho : d.Q e W base ok v xs) (ht : e ≠ 36) : some g ≠ v.ownBlock := by
 obtain ⟨A0, c0, hb, hg, hr0⟩ := h
 exact Kd.Q_ne ho hb ht
theorem IsS36.apartS {w0 W : World} {g : Nat} {f0 : List Int} {f1 : Int} {f2 : Int} {α : Type} {d : Kd α} {e : Nat} {base : Nat} {ok : Nat → Prop} {v : Value} {xs : List α} (h : IsS36 w0 W g f0 f1 f2) (ho : d.S e W base ok v xs) (ht : ∀ q, q ∈ e :: d.E → q ≠ 36) : d.S e W base (fun k => ok k ∧ k ≠ g) v xs := by
 obtain ⟨A0, c0, hb, hg, hr0⟩ := h
 exact Kd.S_types ho hb ht
theorem IsS36.own_neS {w0 W : World} {g : Nat} {f0 : List Int} {f1 : Int} {f2 : Int} {α : Type} {d : Kd α} {e : Nat} {base : Nat} {ok : Nat → Prop} {v : Value} {xs : List α} (h : IsS36 w0 W g f0 f1 f2) (ho : d.S e W base ok v xs) (ht : e ≠ 36) : some g ≠ v.ownBlock := by
 obtain ⟨A0, c0, hb, hg, hr0⟩ := h
 exact Kd.S_ne ho hb ht
theorem IsS36.lt {w0 W : World} {g : Nat} {f0 : List Int} {f1 : Int} {f2 : Int} (h : IsS36 w0 W g f0 f1 f2) : g < W.heap.size := by
 obtain ⟨A0, c0, hb, hg, hr0⟩ := h
 exact blk_lt hb
theorem IsS36.ge {w0 W : World} {g : Nat} {f0 : List Int} {f1 : Int} {f2 : Int} (h : IsS36 w0 W g f0 f1 f2) : w0.heap.size ≤ g := by
 obtain ⟨A0, c0, hb, hg, hr0⟩ := h
 exact hg
theorem IsS36.ne_blk {w0 W : World} {g : Nat} {f0 : List Int} {f1 : Int} {f2 : Int} {a : Nat} {cs : Array Value} {t : TypeId} {fr : Nat × Nat} (h : IsS36 w0 W g f0 f1 f2) (hb2 : W.heap[a]? = some (.cells cs t fr)) (ht : t ≠ 36) : g ≠ a := by
 obtain ⟨A0, c0, hb, hg, hr0⟩ := h
 rintro rfl
 rw [hb] at hb2
 injection hb2 with hb2
 injection hb2 with _ ht2
 exact ht ht2.symm
theorem IsS36.far {w0 W : World} {g : Nat} {f0 : List Int} {f1 : Int} {f2 : Int} {p : Addr} (h : IsS36 w0 W g f0 f1 f2) (hne : g ≠ p.block) (u : Value) : IsS36 w0 (W.setCell p u) g f0 f1 f2 := by
 obtain ⟨A0, c0, hb, hg, hr0⟩ := h
 exact ⟨A0, c0, blk_far hb hne u, hg, hr0⟩
theorem cellS36_0 {W : World} {g : Nat} {A0 : Option Addr} {c0 : Nat} {f0 : List Int} {f1 : Int} {f2 : Int} (h : W.heap[g]? = some (.cells #[.slice A0 f0.length c0, .int .i64 f1, .int .u64 f2] 36 (0, 0))) : W.cell? ⟨g, 0, none⟩ = some (.slice A0 f0.length c0) := (blk_cell h 0).trans rfl
theorem cellS36_1 {W : World} {g : Nat} {A0 : Option Addr} {c0 : Nat} {f0 : List Int} {f1 : Int} {f2 : Int} (h : W.heap[g]? = some (.cells #[.slice A0 f0.length c0, .int .i64 f1, .int .u64 f2] 36 (0, 0))) : W.cell? ⟨g, 1, none⟩ = some (.int .i64 f1) := (blk_cell h 1).trans rfl
theorem IsS36.set_1 {w0 W : World} {g : Nat} {f0 : List Int} {f1 : Int} {f2 : Int} (h : IsS36 w0 W g f0 f1 f2) (x : Int) : IsS36 w0 (W.setCell ⟨g, 1, none⟩ (.int .i64 x)) g f0 x f2 := by
 obtain ⟨A0, c0, hb, hg, hr0⟩ := h
 exact ⟨A0, c0, by simpa using blk_set hb 1 (.int .i64 x), hg, hr0⟩
theorem cellS36_2 {W : World} {g : Nat} {A0 : Option Addr} {c0 : Nat} {f0 : List Int} {f1 : Int} {f2 : Int} (h : W.heap[g]? = some (.cells #[.slice A0 f0.length c0, .int .i64 f1, .int .u64 f2] 36 (0, 0))) : W.cell? ⟨g, 2, none⟩ = some (.int .u64 f2) := (blk_cell h 2).trans rfl
theorem IsS36.set_2 {w0 W : World} {g : Nat} {f0 : List Int} {f1 : Int} {f2 : Int} (h : IsS36 w0 W g f0 f1 f2) (x : Int) : IsS36 w0 (W.setCell ⟨g, 2, none⟩ (.int .u64 x)) g f0 f1 x := by
 obtain ⟨A0, c0, hb, hg, hr0⟩ := h
 exact ⟨A0, c0, by simpa using blk_set hb 2 (.int .u64 x), hg, hr0⟩
theorem IsS36.new (w0 W : World) (A0 : Option Addr) (c0 : Nat) (f0 : List Int) (f1 : Int) (f2 : Int) (hB : Below w0.heap.size w0 W) (hr0 : Kd.C (Kd.int .u8) w0 A0 f0.length f0) : IsS36 w0 (W.alloc (.cells #[.slice A0 f0.length c0, .int .i64 f1, .int .u64 f2] 36)) W.heap.size f0 f1 f2 := ⟨A0, c0, by simpa using heap_alloc_new W _, hB.size, hr0⟩

/-! ### laws_lwNext: function 17 -/
def laws_lwNext.f (ac : List Int) (aa : Int) (ab : Int) (a1 : Int) : Option (Int × Int × Int) := if a1 ≤ 0 then (some (0, aa, ab)) else (if aa < (ac.length : Int) then (if 0 ≤ aa then (if (IntKind.u64.wrap (a1)) = 0 then (none) else (some (wrap64 (Int.tmod (Go.bits .xor .u64 ((IntKind.u64.wrap ((IntKind.u64.wrap (ab * 6364136223846793005)) + 1442695040888963407)) / 8589934592) (IntKind.u64.wrap (rd ac aa))) (IntKind.u64.wrap (a1))), wrap64 (aa + 1), IntKind.u64.wrap ((IntKind.u64.wrap (ab * 6364136223846793005)) + 1442695040888963407)))) else (none)) else (if (IntKind.u64.wrap (a1)) = 0 then (none) else (some (wrap64 (Int.tmod ((IntKind.u64.wrap ((IntKind.u64.wrap (ab * 6364136223846793005)) + 1442695040888963407)) / 8589934592) (IntKind.u64.wrap (a1))), aa, IntKind.u64.wrap ((IntKind.u64.wrap (ab * 6364136223846793005)) + 1442695040888963407)))))
set_option maxHeartbeats 60000000 in
set_option maxRecDepth 100000 in
theorem laws_lwNext.calls (g : Nat) (ab : List Int) (aa : Int) (ac : Int) (a1 : Int) (r1 : Int) (r2 : Int) (r3 : Int) (w0 w : World) (hI : IsS36 w0 w g ab aa ac) (hB : Below w0.heap.size w0 w) (h : laws_lwNext.f ab aa ac a1 = some (r1, r2, r3)) :
 Calls Try.prog 17 #[.pointer (some ⟨g, 0, none⟩), .int .i64 a1] w fun e w' => e = .returned (.int .i64 r1) ∧ IsS36 w0 w' g ab r2 r3 ∧ Below w0.heap.size w0 w' ∧ KeepBut w w' g none := by
 have ad := Aside0.mk hI
 have HK := Aside0.mk (KeepBut.refl w g none)
 have HL := Aside0.mk hB.size
 clear hI
 have HW0 := Aside0.mk hB.size
 have HB := Aside0.mk hB
 clear hB
 have H : (if a1 ≤ 0 then (some (0, aa, ac)) else (if aa < (ab.length : Int) then (if 0 ≤ aa then (if (IntKind.u64.wrap (a1)) = 0 then (none) else (some (wrap64 (Int.tmod (Go.bits .xor .u64 ((IntKind.u64.wrap ((IntKind.u64.wrap (ac * 6364136223846793005)) + 1442695040888963407)) / 8589934592) (IntKind.u64.wrap (rd ab aa))) (IntKind.u64.wrap (a1))), wrap64 (aa + 1), IntKind.u64.wrap ((IntKind.u64.wrap (ac * 6364136223846793005)) + 1442695040888963407)))) else (none)) else (if (IntKind.u64.wrap (a1)) = 0 then (none) else (some (wrap64 (Int.tmod ((IntKind.u64.wrap ((IntKind.u64.wrap (ac * 6364136223846793005)) + 1442695040888963407)) / 8589934592) (IntKind.u64.wrap (a1))), aa, IntKind.u64.wrap ((IntKind.u64.wrap (ac * 6364136223846793005)) + 1442695040888963407)))))) = some (r1, r2, r3) := h
 clear h
 by_cases c3 : a1 ≤ 0
 {
 rw [if_pos c3] at H
 have c3b0 : decide (a1 ≤ 0) = true := decide_eq_true c3
 clear c3
 simp only [Option.some.injEq, Prod.mk.injEq] at H
 obtain ⟨rfl, rfl, rfl⟩ := H
 go_enter Try.func17, Try.ntmps17
 go_wp2
 repeat (go_quiet (fail); try go_wp2)
 go_ret
 exact ⟨by first | rfl | (simp [errW_none, errW_some] <;> rfl) | (simp [*, errW_none, errW_some] <;> rfl), by repeat (first | (with_reducible first | exact ad.out | apply IsS36.alloc | apply IsS36.drewN | apply IsS36.drew | apply IsS36.set_1 | apply IsS36.set_2) | exact ad.out), by repeat (first | (with_reducible first | exact HB.out | apply below_alloc | apply pw_below_drewN | apply below_drew1 | refine below_set ?_ (IsS36.ge ad.out)) | exact HB.out), by repeat (first | (with_reducible first | exact HK.out | apply KeepBut.set_ | apply keep_drewN | apply keep_drew | apply keep_alloc) | exact HK.out)⟩
 }
 {
 rw [if_neg c3] at H
 have c3b0 : decide (a1 ≤ 0) = false := decide_eq_false c3
 clear c3
 by_cases c4 : aa < (ab.length : Int)
 {
 rw [if_pos c4] at H
 have c4b0 : decide (aa < (ab.length : Int)) = true := decide_eq_true c4
 clear c4
 by_cases c5 : 0 ≤ aa
 {
 rw [if_pos c5] at H
 have c5b0 : decide (0 ≤ aa) = true := decide_eq_true c5
 clear c5
 by_cases c6 : (IntKind.u64.wrap (a1)) = 0
 {
 rw [if_pos c6] at H
 exact absurd H (by simp)
 }
 {
 rw [if_neg c6] at H
 have c6b0 : ((IntKind.u64.wrap (a1)) == 0) = false := beq_eq_false_iff_ne.mpr c6
 have c6b1 : ((IntKind.u64.wrap (a1)) != 0) = true := bne_iff_ne.mpr c6
 simp only [Option.some.injEq, Prod.mk.injEq] at H
 obtain ⟨rfl, rfl, rfl⟩ := H
 obtain ⟨ASz1001_0, cSz1001_0, HGz1001, hgz1001, HSz1001_0⟩ := ad.out
 have ae := cellS36_0 HGz1001
 have af := cellS36_1 HGz1001
 have ag := cellS36_2 HGz1001
 have ah := blk_frozen HGz1001 1
 have ai := blk_frozen HGz1001 2
 clear HGz1001 hgz1001
 have p309 : 0 ≤ (aa : Int) := of_decide_eq_true (by first | (with_reducible assumption) | assumption)
 have q309 : aa < (ab.length : Int) := of_decide_eq_true (by first | (with_reducible assumption) | assumption)
 obtain ⟨ad309, e309, hx309_0⟩ := Kd.at_int HSz1001_0 aa p309 q309
 cases e309
 have hn309_0 : ad309.block ≠ g := Nat.ne_of_lt (Nat.lt_of_lt_of_le (by have := World.block_lt_of_cell? _ _ hx309_0; first | rwa [add_block] at this | exact this) (IsS36.ge ad.out))
 replace hx309_0 := pw_cell_below HB.out hx309_0
 replace hx309_0 := (cell_far (p := ⟨g, 2, none⟩) (by first | (rw [add_block]; exact hn309_0) | (show (Addr.add _ _).block ≠ _; rw [add_block]; exact hn309_0) | exact hn309_0) (.int .u64 (IntKind.u64.wrap ((IntKind.u64.wrap (ac * 6364136223846793005)) + 1442695040888963407)))).trans hx309_0
 (try have aj := fun (n_ : Nat) => (show (((w.drewN n_).setCell ⟨g, 2, none⟩ (.int .u64 (IntKind.u64.wrap ((IntKind.u64.wrap (ac * 6364136223846793005)) + 1442695040888963407))))).cell? _ = some _ from hx309_0))
 clear hn309_0
 replace p309 := eq_true p309
 replace q309 := eq_true q309
 go_enter Try.func17, Try.ntmps17
 go_wp2
 repeat (go_quiet (fail); try go_wp2)
 go_ret
 exact ⟨by first | rfl | (simp [errW_none, errW_some] <;> rfl) | (simp [*, errW_none, errW_some] <;> rfl), by repeat (first | (with_reducible first | exact ad.out | apply IsS36.alloc | apply IsS36.drewN | apply IsS36.drew | apply IsS36.set_1 | apply IsS36.set_2) | exact ad.out), by repeat (first | (with_reducible first | exact HB.out | apply below_alloc | apply pw_below_drewN | apply below_drew1 | refine below_set ?_ (IsS36.ge ad.out)) | exact HB.out), by repeat (first | (with_reducible first | exact HK.out | apply KeepBut.set_ | apply keep_drewN | apply keep_drew | apply keep_alloc) | exact HK.out)⟩
 }
 }
 {
 rw [if_neg c5] at H
 exact absurd H (by simp)
 }
 }
 {
 rw [if_neg c4] at H
 have c4b0 : decide (aa < (ab.length : Int)) = false := decide_eq_false c4
 clear c4
 by_cases c7 : (IntKind.u64.wrap (a1)) = 0
 {
 rw [if_pos c7] at H
 exact absurd H (by simp)
 }
 {
 rw [if_neg c7] at H
 have c7b0 : ((IntKind.u64.wrap (a1)) == 0) = false := beq_eq_false_iff_ne.mpr c7
 have c7b1 : ((IntKind.u64.wrap (a1)) != 0) = true := bne_iff_ne.mpr c7
 simp only [Option.some.injEq, Prod.mk.injEq] at H
 obtain ⟨rfl, rfl, rfl⟩ := H
 obtain ⟨ASz1001_0, cSz1001_0, HGz1001, hgz1001, HSz1001_0⟩ := ad.out
 have ae := cellS36_0 HGz1001
 have af := cellS36_1 HGz1001
 have ag := cellS36_2 HGz1001
 have ah := blk_frozen HGz1001 1
 have ai := blk_frozen HGz1001 2
 clear HGz1001 hgz1001
 go_enter Try.func17, Try.ntmps17
 go_wp2
 repeat (go_quiet (fail); try go_wp2)
 go_ret
 exact ⟨by first | rfl | (simp [errW_none, errW_some] <;> rfl) | (simp [*, errW_none, errW_some] <;> rfl), by repeat (first | (with_reducible first | exact ad.out | apply IsS36.alloc | apply IsS36.drewN | apply IsS36.drew | apply IsS36.set_1 | apply IsS36.set_2) | exact ad.out), by repeat (first | (with_reducible first | exact HB.out | apply below_alloc | apply pw_below_drewN | apply below_drew1 | refine below_set ?_ (IsS36.ge ad.out)) | exact HB.out), by repeat (first | (with_reducible first | exact HK.out | apply KeepBut.set_ | apply keep_drewN | apply keep_drew | apply keep_alloc) | exact HK.out)⟩
 }
 }
 }

/-! ### impl_isPort: function 44 -/
def impl_isPort.f (a0 : Int) : Option (Bool) := if a0 ≥ 0 then (some (decide (a0 ≤ 65535))) else (some false)
set_option maxHeartbeats 60000000 in
set_option maxRecDepth 100000 in
theorem impl_isPort.calls (a0 : Int) (r : Bool) (w : World) (h : impl_isPort.f a0 = some r) :
 Calls Try.prog 44 #[.int .i64 a0] w fun e w' => e = .returned (.bool r) ∧ Drawn0 w w' := by
 have H : (if a0 ≥ 0 then (some (decide (a0 ≤ 65535))) else (some false)) = some r := h
 clear h
 by_cases c2 : a0 ≥ 0
 {
 rw [if_pos c2] at H
 have c2b0 : decide (0 ≤ a0) = true := decide_eq_true c2
 clear c2
 obtain rfl := Option.some.inj H
 go_enter Try.func44, Try.ntmps44
 go_wp2
 go_ret
 exact ⟨by first | rfl | (simp; done) | (simp [*]; done), by repeat (first | exact Drawn0.refl _ | apply Drawn0.step)⟩
 }
 {
 rw [if_neg c2] at H
 have c2b0 : decide (0 ≤ a0) = false := decide_eq_false c2
 clear c2
 obtain rfl := Option.some.inj H
 go_enter Try.func44, Try.ntmps44
 go_wp2
 go_ret
 exact ⟨by first | rfl | (simp; done) | (simp [*]; done), by repeat (first | exact Drawn0.refl _ | apply Drawn0.step)⟩
 }

/-! ### impl_EncodeUdp: function 18 -/
def impl_EncodeUdp.j0 : Nat → Int → Int → Bool → Int → Int → List Int → Option (List Int × Int)
  | 0, _, _, _, _, _, _ => none
  | k + 1, x1, x2, al, ad, ae, aa => if al = true then (some (([] : List Int), 1)) else (if (aa.length : Int) > 65507 then (some (([] : List Int), 7)) else ((impl_put.f k ([] : List Int) 2 ad).bind fun aj => ((impl_put.f k aj 2 ae).bind fun ak => ((impl_put.f k ak 2 (wrap64 (8 + (aa.length : Int)))).bind fun af => ((some (([0, 0] : List Int) : List Int)).bind fun ag => (if af.length + ag.length < 140737488355328 then ((some (af ++ ag : List Int)).bind fun ah => (if ah.length + aa.length < 140737488355328 then ((some (ah ++ aa : List Int)).bind fun ab => ((impl_FalseHead.f k x1 x2 17 (wrap64 (8 + (aa.length : Int)))).bind fun ai => (if ai.length + ab.length < 140737488355328 then ((impl_Checksum.f k (ai ++ ab)).bind fun ac => (if ac = 0 then (if 6 < (ab.length : Int) then (if 7 < (ab.length : Int) then (some (((ab.set (6 : Int).toNat (65535 / 256)).set (7 : Int).toNat ((65535) % 256)), 0)) else (none)) else (none)) else (if 6 < (ab.length : Int) then (if 7 < (ab.length : Int) then (some (((ab.set (6 : Int).toNat ((ac / 256) % 256)).set (7 : Int).toNat ((ac) % 256)), 0)) else (none)) else (none)))) else (none)))) else (none))) else (none)))))))
def impl_EncodeUdp.f (k : Nat) (aa : Int) (ab : Int) (ac : List Int) (a1 : Int) (a2 : Int) : Option (List Int × Int) := (impl_isPort.f aa).bind fun ad => (if ad = true then ((impl_isPort.f ab).bind fun ae => (if ae = true then ((impl_isAddr.f a1).bind fun af => (if af = true then ((impl_isAddr.f a2).bind fun ag => (impl_EncodeUdp.j0 k a1 a2 (!ag) aa ab ac)) else (impl_EncodeUdp.j0 k a1 a2 true aa ab ac))) else (impl_EncodeUdp.j0 k a1 a2 true aa ab ac))) else (impl_EncodeUdp.j0 k a1 a2 true aa ab ac))
theorem impl_EncodeUdp.mono_l : ∀ k, (∀ y0 y1 y2 y3 y4 y5, LeO (impl_EncodeUdp.j0 k y0 y1 y2 y3 y4 y5) (impl_EncodeUdp.j0 (k + 1) y0 y1 y2 y3 y4 y5))
  | 0 => fun _ _ _ _ _ _ r h => by simp [impl_EncodeUdp.j0] at h
  | k + 1 => by
    have ih0 := impl_EncodeUdp.mono_l k
    · intro y0 y1 y2 y3 y4 y5
      unfold impl_EncodeUdp.j0
      repeat' first
      | (with_reducible exact ih0 _ _ _ _ _ _)
      | (with_reducible exact impl_Checksum.mono _ _)
      | (with_reducible exact impl_FalseHead.mono _ _ _ _ _)
      | (with_reducible exact impl_put.mono _ _ _ _)
      | (with_reducible exact LeO.refl _)
      | (with_reducible exact LeO.none _)
      | (with_reducible refine LeO.ite ?_ ?_)
      | (with_reducible refine LeO.bind ?_ (fun _ => ?_))
      | exact ih0 _ _ _ _ _ _
      | exact impl_Checksum.mono _ _
      | exact impl_FalseHead.mono _ _ _ _ _
      | exact impl_put.mono _ _ _ _
      | exact LeO.none _
      | refine LeO.ite ?_ ?_
      | refine LeO.bind ?_ (fun _ => ?_)
theorem impl_EncodeUdp.mono : ∀ a0 a1 a2 a3 a4 k, LeO (impl_EncodeUdp.f k a0 a1 a2 a3 a4) (impl_EncodeUdp.f (k + 1) a0 a1 a2 a3 a4) := by
 intro a0 a1 a2 a3 a4 k
 have ih0 := impl_EncodeUdp.mono_l k
 unfold impl_EncodeUdp.f
 repeat' first
     | (with_reducible exact ih0 _ _ _ _ _ _)
     | (with_reducible exact impl_Checksum.mono _ _)
     | (with_reducible exact impl_FalseHead.mono _ _ _ _ _)
     | (with_reducible exact impl_put.mono _ _ _ _)
     | (with_reducible exact LeO.refl _)
     | (with_reducible exact LeO.none _)
     | (with_reducible refine LeO.ite ?_ ?_)
     | (with_reducible refine LeO.bind ?_ (fun _ => ?_))
     | exact ih0 _ _ _ _ _ _
     | exact impl_Checksum.mono _ _
     | exact impl_FalseHead.mono _ _ _ _ _
     | exact impl_put.mono _ _ _ _
     | exact LeO.none _
     | refine LeO.ite ?_ ?_
     | refine LeO.bind ?_ (fun _ => ?_)
def impl_EncodeUdp.T6 : Bool × List (List Nat × List Nat) := (true, [([], []), ([0], [0]), ([1], [1]), ([], []), ([3], [3]), ([2, 4, 2], [2, 4]), ([], []), ([5, 6, 5], [5, 6]), ([7, 7, 0, 1, 2, 3, 4, 5, 6, 7], [7])])
def impl_EncodeUdp.B6 : List Nat := [0, 1, 3, 0, 8, 31, 0, 127, 255]
theorem impl_EncodeUdp.tab6 : rtab .any (opsOf Try.f18 6) = impl_EncodeUdp.T6 := by kernel_rfl
theorem impl_EncodeUdp.bits6 : waitsOk impl_EncodeUdp.T6.2 impl_EncodeUdp.B6 = true := by kernel_rfl
set_option maxHeartbeats 60000000 in
set_option maxRecDepth 100000 in
theorem impl_EncodeUdp.calls (k : Nat) (ag : Int) (af : Int) (A0_2 : Option Addr) (a8 : Nat) (ad : List Int) (a1 : Int) (a2 : Int) (r1 : List Int) (r2 : Int) (w : World) (hr0_2 : Kd.C (Kd.int .u8) w A0_2 ad.length ad) (hc0_2 : ad.length ≤ a8) (h : impl_EncodeUdp.f k ag af ad a1 a2 = some (r1, r2)) :
 Calls Try.prog 18 #[.agg #[.int .i64 ag, .int .i64 af, .slice A0_2 ad.length a8], .int .i64 a1, .int .i64 a2] w fun e w' => ∃ v0_ : Value, e = .returned (.tuple #[v0_, .int .i64 r2]) ∧ Kd.R (Kd.int .u8) 5 w' w.heap.size (fun _ => True) v0_ r1 ∧ Below w.heap.size w w' := by
 have hu39 := Try.underlying39
 have HR0_2 := Aside0.mk hr0_2
 have b1 := Aside0.mk hc0_2
 clear hr0_2 hc0_2
 have HB := Aside0.mk (Below.refl w.heap.size w)
 have H : ((impl_isPort.f ag).bind fun bA => (if bA = true then ((impl_isPort.f af).bind fun aQ => (if aQ = true then ((impl_isAddr.f a1).bind fun aG => (if aG = true then ((impl_isAddr.f a2).bind fun ap => (impl_EncodeUdp.j0 k a1 a2 (!ap) ag af ad)) else (impl_EncodeUdp.j0 k a1 a2 true ag af ad))) else (impl_EncodeUdp.j0 k a1 a2 true ag af ad))) else (impl_EncodeUdp.j0 k a1 a2 true ag af ad))) = some (r1, r2) := h
 clear h
 have bP := Aside0.mk H
 clear H
 go_enter Try.func18, Try.ntmps18
 go_upto_region 1 with (first | ((with_reducible refine gate_dst (N := 3) rfl ?_); refine box_event ?hg (N := 3) ?hd (cs := #[.int .i64 ag, .int .i64 af, .slice A0_2 ad.length a8]) (t := 39) ?hr ?_; (case hd => rfl); (case hg => rfl); (case hr => first | (go_simp; done) | (go_simp; rfl)); intro aI hg b2 hbox hb; have aa := Aside0.mk (hbox); have bS := Aside0.mk ((by rw [hg]; exact (below_size wB) : w.heap.size ≤ aI)); replace HB := Aside0.mk (below_step wB hb); have bB := bS; clear hb hbox hg))
 (try simp only [Act.put, List.setIfInBounds_toArray, List.set_cons_zero, List.set_cons_succ])
 go_cut [30] (fun bY wc => ∃ (kq : Nat) (bg : Bool), bY = .bool bg ∧ Aside0 (impl_EncodeUdp.j0 kq a1 a2 bg ag af ad = some (r1, r2)) ∧ Aside0 (kq ≤ k) ∧ Aside0 (wc.heap[aI]? = some (.cells #[.int .i64 ag, .int .i64 af, (.slice A0_2 ad.length a8)] 39 (0, 0))) ∧ Aside0 (Below w.heap.size w wc))
 case first => (
 have H := bP.out
 clear bP
 replace H := Option.bind_eq_some_iff.mp H
 obtain ⟨bA, A10020, H⟩ := H
 replace H : (if bA = true then ((impl_isPort.f af).bind fun aQ => (if aQ = true then ((impl_isAddr.f a1).bind fun aG => (if aG = true then ((impl_isAddr.f a2).bind fun ap => (impl_EncodeUdp.j0 k a1 a2 (!ap) ag af ad)) else (impl_EncodeUdp.j0 k a1 a2 true ag af ad))) else (impl_EncodeUdp.j0 k a1 a2 true ag af ad))) else (impl_EncodeUdp.j0 k a1 a2 true ag af ad)) = some (r1, r2) := H
 have A1002 := Aside0.mk A10020
 clear A10020
 by_cases aV : bA = true
 subst aV
 have H1 : ((impl_isPort.f af).bind fun aQ => (if aQ = true then ((impl_isAddr.f a1).bind fun aG => (if aG = true then ((impl_isAddr.f a2).bind fun ap => (impl_EncodeUdp.j0 k a1 a2 (!ap) ag af ad)) else (impl_EncodeUdp.j0 k a1 a2 true ag af ad))) else (impl_EncodeUdp.j0 k a1 a2 true ag af ad))) = some (r1, r2) := by rw [if_pos rfl] at H; exact H
 clear H
 have H := H1
 clear H1
 replace H := Option.bind_eq_some_iff.mp H
 obtain ⟨aQ, A10040, H⟩ := H
 replace H : (if aQ = true then ((impl_isAddr.f a1).bind fun aG => (if aG = true then ((impl_isAddr.f a2).bind fun ap => (impl_EncodeUdp.j0 k a1 a2 (!ap) ag af ad)) else (impl_EncodeUdp.j0 k a1 a2 true ag af ad))) else (impl_EncodeUdp.j0 k a1 a2 true ag af ad)) = some (r1, r2) := H
 have A1004 := Aside0.mk A10040
 clear A10040
 by_cases aW : aQ = true
 subst aW
 have H1 : ((impl_isAddr.f a1).bind fun aG => (if aG = true then ((impl_isAddr.f a2).bind fun ap => (impl_EncodeUdp.j0 k a1 a2 (!ap) ag af ad)) else (impl_EncodeUdp.j0 k a1 a2 true ag af ad))) = some (r1, r2) := by rw [if_pos rfl] at H; exact H
 clear H
 have H := H1
 clear H1
 replace H := Option.bind_eq_some_iff.mp H
 obtain ⟨aG, A10060, H⟩ := H
 replace H : (if aG = true then ((impl_isAddr.f a2).bind fun ap => (impl_EncodeUdp.j0 k a1 a2 (!ap) ag af ad)) else (impl_EncodeUdp.j0 k a1 a2 true ag af ad)) = some (r1, r2) := H
 have A1006 := Aside0.mk A10060
 clear A10060
 by_cases aX : aG = true
 subst aX
 have H1 : ((impl_isAddr.f a2).bind fun ap => (impl_EncodeUdp.j0 k a1 a2 (!ap) ag af ad)) = some (r1, r2) := by rw [if_pos rfl] at H; exact H
 clear H
 have H := H1
 clear H1
 replace H := Option.bind_eq_some_iff.mp H
 obtain ⟨ap, A10080, H⟩ := H
 replace H : (impl_EncodeUdp.j0 k a1 a2 (!ap) ag af ad) = some (r1, r2) := H
 have A1008 := Aside0.mk A10080
 clear A10080
 have H' := Aside0.mk H
 clear H
 rotate_left
 replace aX := Bool.eq_false_iff.mpr aX
 subst aX
 have H1 : (impl_EncodeUdp.j0 k a1 a2 true ag af ad) = some (r1, r2) := by rw [if_neg (show ¬ (false = true) by decide)] at H; exact H
 clear H
 have H := H1
 clear H1
 have H' := Aside0.mk H
 clear H
 rotate_left
 replace aW := Bool.eq_false_iff.mpr aW
 subst aW
 have H1 : (impl_EncodeUdp.j0 k a1 a2 true ag af ad) = some (r1, r2) := by rw [if_neg (show ¬ (false = true) by decide)] at H; exact H
 clear H
 have H := H1
 clear H1
 have H' := Aside0.mk H
 clear H
 rotate_left
 replace aV := Bool.eq_false_iff.mpr aV
 subst aV
 have H1 : (impl_EncodeUdp.j0 k a1 a2 true ag af ad) = some (r1, r2) := by rw [if_neg (show ¬ (false = true) by decide)] at H; exact H
 clear H
 have H := H1
 clear H1
 have H' := Aside0.mk H
 clear H
 rotate_left
 all_goals (
 obtain ⟨⟨a9, ba, bb⟩, bc, bd, bf⟩ := cells3 aa.out
 go_wp2_with (first | ((with_reducible refine gate_callee (f := 44) rfl ?_); refine goesL_ (some 13) rfl rfl Try.func44 (by kernel_rfl) rfl #[.int .i64 ag] rfl wT ?_; (with_reducible refine (impl_isPort.calls ag _ _ A1002.out).mono ?_); rintro e w' ⟨rfl, ⟨nd, rfl⟩⟩; refine ⟨_, rfl, ?_⟩) | (go_at_call 44; (with_reducible refine (impl_isPort.calls af _ _ A1004.out).mono ?_); rintro e w' ⟨rfl, ⟨nd, rfl⟩⟩) | (go_at_call 28; (with_reducible refine (impl_isAddr.calls a1 _ _ A1006.out).mono ?_); rintro e w' ⟨rfl, ⟨nd, rfl⟩⟩) | (go_at_call 28; (with_reducible refine (impl_isAddr.calls a2 ap _ A1008.out).mono ?_); rintro e w' ⟨rfl, ⟨nd, rfl⟩⟩))
 go_meet
 )
 {
 case rel => exact ⟨_, (!ap), (by first | rfl | (simp; done) | (simp [*]; done)), H', ⟨by first | omega | exact Nat.le_refl _⟩, ⟨Bh aa⟩, ⟨wB⟩⟩
 }
 all_goals (
 case rel => exact ⟨_, (true), (by first | rfl | (simp; done) | (simp [*]; done)), H', ⟨by first | omega | exact Nat.le_refl _⟩, ⟨Bh aa⟩, ⟨wB⟩⟩
 )
 )
 case rest => (
 clear bP
 try clear c0
 try clear aV
 try clear aW
 try clear aX
 try clear a9 ba bb bc bd bf
 obtain ⟨kq, bg, rfl, HA, HJ3, aa, HB⟩ := hcut
 cases kq with
 | zero => exact absurd HA.out (by simp [impl_EncodeUdp.j0])
 | succ ak => {
 have H := HA.out
 clear HA
 simp only [impl_EncodeUdp.j0] at H
 by_cases bh : bg = true
 subst bh
 have H1 : (some (([] : List Int), 1)) = some (r1, r2) := by rw [if_pos rfl] at H; exact H
 clear H
 have H := H1
 clear H1
 simp only [Option.some.injEq, Prod.mk.injEq] at H
 obtain ⟨rfl, rfl⟩ := H
 rotate_left
 replace bh := Bool.eq_false_iff.mpr bh
 subst bh
 have H1 : (if (ad.length : Int) > 65507 then (some (([] : List Int), 7)) else ((impl_put.f ak ([] : List Int) 2 ag).bind fun aT => ((impl_put.f ak aT 2 af).bind fun aJ => ((impl_put.f ak aJ 2 (wrap64 (8 + (ad.length : Int)))).bind fun aq => ((some (([0, 0] : List Int) : List Int)).bind fun ao => (if aq.length + ao.length < 140737488355328 then ((some (aq ++ ao : List Int)).bind fun an => (if an.length + ad.length < 140737488355328 then ((some (an ++ ad : List Int)).bind fun ab => ((impl_FalseHead.f ak a1 a2 17 (wrap64 (8 + (ad.length : Int)))).bind fun ai => (if ai.length + ab.length < 140737488355328 then ((impl_Checksum.f ak (ai ++ ab)).bind fun ae => (if ae = 0 then (if 6 < (ab.length : Int) then (if 7 < (ab.length : Int) then (some (((ab.set (6 : Int).toNat (65535 / 256)).set (7 : Int).toNat ((65535) % 256)), 0)) else (none)) else (none)) else (if 6 < (ab.length : Int) then (if 7 < (ab.length : Int) then (some (((ab.set (6 : Int).toNat ((ae / 256) % 256)).set (7 : Int).toNat ((ae) % 256)), 0)) else (none)) else (none)))) else (none)))) else (none))) else (none))))))) = some (r1, r2) := by rw [if_neg (show ¬ (false = true) by decide)] at H; exact H
 clear H
 have H := H1
 clear H1
 by_cases aU : (ad.length : Int) > 65507
 rw [if_pos aU] at H
 have c1010b0 : decide (65507 < (ad.length : Int)) = true := decide_eq_true aU
 have c1010b1 : decide (65507 < ad.length) = true := decide_eq_true (by omega)
 clear aU
 simp only [Option.some.injEq, Prod.mk.injEq] at H
 obtain ⟨rfl, rfl⟩ := H
 rotate_left
 rw [if_neg aU] at H
 have c1010b0 : decide (65507 < (ad.length : Int)) = false := decide_eq_false aU
 have c1010b1 : decide (65507 < ad.length) = false := decide_eq_false (by omega)
 clear aU
 replace H := Option.bind_eq_some_iff.mp H
 obtain ⟨aT, A10110, H⟩ := H
 replace H : ((impl_put.f ak aT 2 af).bind fun aJ => ((impl_put.f ak aJ 2 (wrap64 (8 + (ad.length : Int)))).bind fun aq => ((some (([0, 0] : List Int) : List Int)).bind fun ao => (if aq.length + ao.length < 140737488355328 then ((some (aq ++ ao : List Int)).bind fun an => (if an.length + ad.length < 140737488355328 then ((some (an ++ ad : List Int)).bind fun ab => ((impl_FalseHead.f ak a1 a2 17 (wrap64 (8 + (ad.length : Int)))).bind fun ai => (if ai.length + ab.length < 140737488355328 then ((impl_Checksum.f ak (ai ++ ab)).bind fun ae => (if ae = 0 then (if 6 < (ab.length : Int) then (if 7 < (ab.length : Int) then (some (((ab.set (6 : Int).toNat (65535 / 256)).set (7 : Int).toNat ((65535) % 256)), 0)) else (none)) else (none)) else (if 6 < (ab.length : Int) then (if 7 < (ab.length : Int) then (some (((ab.set (6 : Int).toNat ((ae / 256) % 256)).set (7 : Int).toNat ((ae) % 256)), 0)) else (none)) else (none)))) else (none)))) else (none))) else (none))))) = some (r1, r2) := H
 have A1011 := Aside0.mk A10110
 clear A10110
 replace H := Option.bind_eq_some_iff.mp H
 obtain ⟨aJ, A10120, H⟩ := H
 replace H : ((impl_put.f ak aJ 2 (wrap64 (8 + (ad.length : Int)))).bind fun aq => ((some (([0, 0] : List Int) : List Int)).bind fun ao => (if aq.length + ao.length < 140737488355328 then ((some (aq ++ ao : List Int)).bind fun an => (if an.length + ad.length < 140737488355328 then ((some (an ++ ad : List Int)).bind fun ab => ((impl_FalseHead.f ak a1 a2 17 (wrap64 (8 + (ad.length : Int)))).bind fun ai => (if ai.length + ab.length < 140737488355328 then ((impl_Checksum.f ak (ai ++ ab)).bind fun ae => (if ae = 0 then (if 6 < (ab.length : Int) then (if 7 < (ab.length : Int) then (some (((ab.set (6 : Int).toNat (65535 / 256)).set (7 : Int).toNat ((65535) % 256)), 0)) else (none)) else (none)) else (if 6 < (ab.length : Int) then (if 7 < (ab.length : Int) then (some (((ab.set (6 : Int).toNat ((ae / 256) % 256)).set (7 : Int).toNat ((ae) % 256)), 0)) else (none)) else (none)))) else (none)))) else (none))) else (none)))) = some (r1, r2) := H
 have A1012 := Aside0.mk A10120
 clear A10120
 replace H := Option.bind_eq_some_iff.mp H
 obtain ⟨aq, A10130, H⟩ := H
 replace H : ((some (([0, 0] : List Int) : List Int)).bind fun ao => (if aq.length + ao.length < 140737488355328 then ((some (aq ++ ao : List Int)).bind fun an => (if an.length + ad.length < 140737488355328 then ((some (an ++ ad : List Int)).bind fun ab => ((impl_FalseHead.f ak a1 a2 17 (wrap64 (8 + (ad.length : Int)))).bind fun ai => (if ai.length + ab.length < 140737488355328 then ((impl_Checksum.f ak (ai ++ ab)).bind fun ae => (if ae = 0 then (if 6 < (ab.length : Int) then (if 7 < (ab.length : Int) then (some (((ab.set (6 : Int).toNat (65535 / 256)).set (7 : Int).toNat ((65535) % 256)), 0)) else (none)) else (none)) else (if 6 < (ab.length : Int) then (if 7 < (ab.length : Int) then (some (((ab.set (6 : Int).toNat ((ae / 256) % 256)).set (7 : Int).toNat ((ae) % 256)), 0)) else (none)) else (none)))) else (none)))) else (none))) else (none))) = some (r1, r2) := H
 have A1013 := Aside0.mk A10130
 clear A10130
 obtain ⟨ao, aY⟩ : ∃ y_ : List Int, y_ = (([0, 0] : List Int)) := ⟨_, rfl⟩
 replace H : (if aq.length + ao.length < 140737488355328 then ((some (aq ++ ao : List Int)).bind fun an => (if an.length + ad.length < 140737488355328 then ((some (an ++ ad : List Int)).bind fun ab => ((impl_FalseHead.f ak a1 a2 17 (wrap64 (8 + (ad.length : Int)))).bind fun ai => (if ai.length + ab.length < 140737488355328 then ((impl_Checksum.f ak (ai ++ ab)).bind fun ae => (if ae = 0 then (if 6 < (ab.length : Int) then (if 7 < (ab.length : Int) then (some (((ab.set (6 : Int).toNat (65535 / 256)).set (7 : Int).toNat ((65535) % 256)), 0)) else (none)) else (none)) else (if 6 < (ab.length : Int) then (if 7 < (ab.length : Int) then (some (((ab.set (6 : Int).toNat ((ae / 256) % 256)).set (7 : Int).toNat ((ae) % 256)), 0)) else (none)) else (none)))) else (none)))) else (none))) else (none)) = some (r1, r2) := by first | (rw [aY]; with_reducible exact H) | (have H2_ := (Option.bind_some _ _).symm.trans H; rw [aY]; with_reducible exact H2_) | (have H2_ := (Option.bind_some _ _).symm.trans H; with_reducible exact H2_) | with_reducible exact H | (rw [aY]; exact H) | exact H
 have Ny324 := Aside0.mk aY
 clear aY
 by_cases bi : aq.length + ao.length < 140737488355328
 rw [if_pos bi] at H
 have LMc1014 := Aside0.mk bi
 clear bi
 obtain ⟨an, aZ⟩ : ∃ y_ : List Int, y_ = (aq ++ ao) := ⟨_, rfl⟩
 replace H : (if an.length + ad.length < 140737488355328 then ((some (an ++ ad : List Int)).bind fun ab => ((impl_FalseHead.f ak a1 a2 17 (wrap64 (8 + (ad.length : Int)))).bind fun ai => (if ai.length + ab.length < 140737488355328 then ((impl_Checksum.f ak (ai ++ ab)).bind fun ae => (if ae = 0 then (if 6 < (ab.length : Int) then (if 7 < (ab.length : Int) then (some (((ab.set (6 : Int).toNat (65535 / 256)).set (7 : Int).toNat ((65535) % 256)), 0)) else (none)) else (none)) else (if 6 < (ab.length : Int) then (if 7 < (ab.length : Int) then (some (((ab.set (6 : Int).toNat ((ae / 256) % 256)).set (7 : Int).toNat ((ae) % 256)), 0)) else (none)) else (none)))) else (none)))) else (none)) = some (r1, r2) := by first | (rw [aZ]; with_reducible exact H) | (have H2_ := (Option.bind_some _ _).symm.trans H; rw [aZ]; with_reducible exact H2_) | (have H2_ := (Option.bind_some _ _).symm.trans H; with_reducible exact H2_) | with_reducible exact H | (rw [aZ]; exact H) | exact H
 have Ny327 := Aside0.mk aZ
 clear aZ
 by_cases bj : an.length + ad.length < 140737488355328
 rw [if_pos bj] at H
 have LMc1015 := Aside0.mk bj
 clear bj
 obtain ⟨ab, a0⟩ : ∃ y_ : List Int, y_ = (an ++ ad) := ⟨_, rfl⟩
 replace H : ((impl_FalseHead.f ak a1 a2 17 (wrap64 (8 + (ad.length : Int)))).bind fun ai => (if ai.length + ab.length < 140737488355328 then ((impl_Checksum.f ak (ai ++ ab)).bind fun ae => (if ae = 0 then (if 6 < (ab.length : Int) then (if 7 < (ab.length : Int) then (some (((ab.set (6 : Int).toNat (65535 / 256)).set (7 : Int).toNat ((65535) % 256)), 0)) else (none)) else (none)) else (if 6 < (ab.length : Int) then (if 7 < (ab.length : Int) then (some (((ab.set (6 : Int).toNat ((ae / 256) % 256)).set (7 : Int).toNat ((ae) % 256)), 0)) else (none)) else (none)))) else (none))) = some (r1, r2) := by first | (rw [a0]; with_reducible exact H) | (have H2_ := (Option.bind_some _ _).symm.trans H; rw [a0]; with_reducible exact H2_) | (have H2_ := (Option.bind_some _ _).symm.trans H; with_reducible exact H2_) | with_reducible exact H | (rw [a0]; exact H) | exact H
 have Ny330 := Aside0.mk a0
 clear a0
 replace H := Option.bind_eq_some_iff.mp H
 obtain ⟨ai, A10160, H⟩ := H
 replace H : (if ai.length + ab.length < 140737488355328 then ((impl_Checksum.f ak (ai ++ ab)).bind fun ae => (if ae = 0 then (if 6 < (ab.length : Int) then (if 7 < (ab.length : Int) then (some (((ab.set (6 : Int).toNat (65535 / 256)).set (7 : Int).toNat ((65535) % 256)), 0)) else (none)) else (none)) else (if 6 < (ab.length : Int) then (if 7 < (ab.length : Int) then (some (((ab.set (6 : Int).toNat ((ae / 256) % 256)).set (7 : Int).toNat ((ae) % 256)), 0)) else (none)) else (none)))) else (none)) = some (r1, r2) := H
 have A1016 := Aside0.mk A10160
 clear A10160
 by_cases bk : ai.length + ab.length < 140737488355328
 rw [if_pos bk] at H
 have LMc1017 := Aside0.mk bk
 clear bk
 obtain ⟨aE, a3⟩ : ∃ y_ : List Int, y_ = (ai ++ ab) := ⟨_, rfl⟩
 replace H : ((impl_Checksum.f ak aE).bind fun ae => (if ae = 0 then (if 6 < (ab.length : Int) then (if 7 < (ab.length : Int) then (some (((ab.set (6 : Int).toNat (65535 / 256)).set (7 : Int).toNat ((65535) % 256)), 0)) else (none)) else (none)) else (if 6 < (ab.length : Int) then (if 7 < (ab.length : Int) then (some (((ab.set (6 : Int).toNat ((ae / 256) % 256)).set (7 : Int).toNat ((ae) % 256)), 0)) else (none)) else (none)))) = some (r1, r2) := by first | (rw [a3]; with_reducible exact H) | (have H2_ := (Option.bind_some _ _).symm.trans H; rw [a3]; with_reducible exact H2_) | (have H2_ := (Option.bind_some _ _).symm.trans H; with_reducible exact H2_) | with_reducible exact H | (rw [a3]; exact H) | exact H
 have Ny336 := Aside0.mk a3
 clear a3
 replace H := Option.bind_eq_some_iff.mp H
 obtain ⟨ae, A10180, H⟩ := H
 replace H : (if ae = 0 then (if 6 < (ab.length : Int) then (if 7 < (ab.length : Int) then (some (((ab.set (6 : Int).toNat (65535 / 256)).set (7 : Int).toNat ((65535) % 256)), 0)) else (none)) else (none)) else (if 6 < (ab.length : Int) then (if 7 < (ab.length : Int) then (some (((ab.set (6 : Int).toNat ((ae / 256) % 256)).set (7 : Int).toNat ((ae) % 256)), 0)) else (none)) else (none))) = some (r1, r2) := H
 have A1018 := Aside0.mk A10180
 clear A10180
 by_cases aM : ae = 0
 rw [if_pos aM] at H
 have c1019b0 : (ae == 0) = true := beq_iff_eq.mpr aM
 have c1019b1 : (ae != 0) = false := bne_eq_false_iff_eq.mpr aM
 clear aM
 by_cases bl : 6 < (ab.length : Int)
 rw [if_pos bl] at H
 have c1020b0 : decide (6 < (ab.length : Int)) = true := decide_eq_true bl
 have c1020b1 : decide (6 < ab.length) = true := decide_eq_true (by omega)
 clear bl
 obtain ⟨bM, a4⟩ : ∃ y_ : List Int, y_ = (ab.set (6 : Int).toNat (65535 / 256)) := ⟨_, rfl⟩
 replace H : (if 7 < (ab.length : Int) then (some ((bM.set (7 : Int).toNat ((65535) % 256)), 0)) else (none)) = some (r1, r2) := by first | (rw [a4]; with_reducible exact H) | (have H2_ := (Option.bind_some _ _).symm.trans H; rw [a4]; with_reducible exact H2_) | (have H2_ := (Option.bind_some _ _).symm.trans H; with_reducible exact H2_) | with_reducible exact H | (rw [a4]; exact H) | exact H
 have Ny340 := Aside0.mk a4
 clear a4
 by_cases bm : 7 < (ab.length : Int)
 rw [if_pos bm] at H
 have c1022b0 : decide (7 < (ab.length : Int)) = true := decide_eq_true bm
 have c1022b1 : decide (7 < ab.length) = true := decide_eq_true (by omega)
 clear bm
 obtain ⟨bQ, a5⟩ : ∃ y_ : List Int, y_ = (bM.set (7 : Int).toNat ((65535) % 256)) := ⟨_, rfl⟩
 replace H : (some (bQ, 0)) = some (r1, r2) := by first | (rw [a5]; with_reducible exact H) | (have H2_ := (Option.bind_some _ _).symm.trans H; rw [a5]; with_reducible exact H2_) | (have H2_ := (Option.bind_some _ _).symm.trans H; with_reducible exact H2_) | with_reducible exact H | (rw [a5]; exact H) | exact H
 have Ny341 := Aside0.mk a5
 clear a5
 simp only [Option.some.injEq, Prod.mk.injEq] at H
 obtain ⟨rfl, rfl⟩ := H
 rotate_left
 rw [if_neg bm] at H
 exact absurd H (by simp)
 rw [if_neg bl] at H
 exact absurd H (by simp)
 rw [if_neg aM] at H
 have c1019b0 : (ae == 0) = false := beq_eq_false_iff_ne.mpr aM
 have c1019b1 : (ae != 0) = true := bne_iff_ne.mpr aM
 by_cases bn : 6 < (ab.length : Int)
 rw [if_pos bn] at H
 have c1024b0 : decide (6 < (ab.length : Int)) = true := decide_eq_true bn
 have c1024b1 : decide (6 < ab.length) = true := decide_eq_true (by omega)
 clear bn
 obtain ⟨bN, a6⟩ : ∃ y_ : List Int, y_ = (ab.set (6 : Int).toNat ((ae / 256) % 256)) := ⟨_, rfl⟩
 replace H : (if 7 < (ab.length : Int) then (some ((bN.set (7 : Int).toNat ((ae) % 256)), 0)) else (none)) = some (r1, r2) := by first | (rw [a6]; with_reducible exact H) | (have H2_ := (Option.bind_some _ _).symm.trans H; rw [a6]; with_reducible exact H2_) | (have H2_ := (Option.bind_some _ _).symm.trans H; with_reducible exact H2_) | with_reducible exact H | (rw [a6]; exact H) | exact H
 have Ny342 := Aside0.mk a6
 clear a6
 by_cases bo : 7 < (ab.length : Int)
 rw [if_pos bo] at H
 have c1026b0 : decide (7 < (ab.length : Int)) = true := decide_eq_true bo
 have c1026b1 : decide (7 < ab.length) = true := decide_eq_true (by omega)
 clear bo
 obtain ⟨bR, a7⟩ : ∃ y_ : List Int, y_ = (bN.set (7 : Int).toNat ((ae) % 256)) := ⟨_, rfl⟩
 replace H : (some (bR, 0)) = some (r1, r2) := by first | (rw [a7]; with_reducible exact H) | (have H2_ := (Option.bind_some _ _).symm.trans H; rw [a7]; with_reducible exact H2_) | (have H2_ := (Option.bind_some _ _).symm.trans H; with_reducible exact H2_) | with_reducible exact H | (rw [a7]; exact H) | exact H
 have Ny343 := Aside0.mk a7
 clear a7
 simp only [Option.some.injEq, Prod.mk.injEq] at H
 obtain ⟨rfl, rfl⟩ := H
 rotate_left
 rw [if_neg bo] at H
 exact absurd H (by simp)
 rw [if_neg bn] at H
 exact absurd H (by simp)
 rw [if_neg bk] at H
 exact absurd H (by simp)
 rw [if_neg bj] at H
 exact absurd H (by simp)
 rw [if_neg bi] at H
 exact absurd H (by simp)
 {
 go_wp2
 go_ret2
 exact ⟨_, by first | rfl | (simp [errW_none, errW_some] <;> rfl) | (simp [*, errW_none, errW_some] <;> rfl), by first | exact Kd.R_nil _ _ _ _ _ | exact Kd.N_nil _ _ _ _ _ | exact Kd.V_nil _ _ _ _ _ | exact Kd.Q_nil _ _ _ _ _ | exact Kd.S_nil _ _ _ _ _, wB⟩
 }
 all_goals (
 obtain ⟨⟨a9, ba, bb⟩, bc, bd, bf⟩ := cells3 aa.out
 try go_wp2
 )
 {
 go_ret2
 exact ⟨_, by first | rfl | (simp [errW_none, errW_some] <;> rfl) | (simp [*, errW_none, errW_some] <;> rfl), by first | exact Kd.R_nil _ _ _ _ _ | exact Kd.N_nil _ _ _ _ _ | exact Kd.V_nil _ _ _ _ _ | exact Kd.Q_nil _ _ _ _ _ | exact Kd.S_nil _ _ _ _ _, wB⟩
 }
 all_goals (
 have n0_ := Aside0.mk (blk_drew aa.out)
 have n1_ := Aside0.mk (below_drew1 HB.out)
 clear aa
 clear HB
 have aa := n0_
 have HB := n1_
 clear n0_ n1_
 refine start_ (n := 9) (S := fun w' => w'.cell? ⟨aI, 0, none⟩ = some (.int .i64 ag) ∧ w'.cell? ⟨aI, 1, none⟩ = some (.int .i64 af) ∧ w'.cell? ⟨aI, 2, none⟩ = some (.slice A0_2 ad.length a8)) (ds := []) #[false, false, false, false, false, false, false, false, false] (by kernel_rfl) rfl rfl ⟨(blk_cell aa.out 0).trans rfl, (blk_cell aa.out 1).trans rfl, (blk_cell aa.out 2).trans rfl⟩ (fun hHeld => ?_); refine with_tabW impl_EncodeUdp.tab6 impl_EncodeUdp.bits6 (fun HT_ HW_ => ?_)
 generalize wc.drew = b3 at aa HB hHeld ⊢
 refine pure_ (i := 0) (N := some 39) (v := ?_) (a' := ?_) #[true, false, false, false, false, false, false, false, false] rfl rfl (any_of HT_.out (by kernel_rfl)) (fun _ _ _ h => h) (Or.inl ⟨by rfl, ?_⟩) ?_ ?_
 rotate_left
 {
 intro w'
 go_simp
 with_reducible rfl
 }
 rotate_left
 {
 simp only [Act.put, List.setIfInBounds_toArray, List.set_cons_zero, List.set_cons_succ, i64_w, i32_w]
 rfl
 }
 refine pure_ (i := 3) (N := some 42) (v := ?_) (a' := ?_) #[true, false, false, true, false, false, false, false, false] rfl rfl (any_of HT_.out (by kernel_rfl)) (fun _ _ _ h => h) (Or.inl ⟨by rfl, ?_⟩) ?_ ?_
 rotate_left
 {
 intro w'
 go_simp
 with_reducible rfl
 }
 rotate_left
 {
 simp only [Act.put, List.setIfInBounds_toArray, List.set_cons_zero, List.set_cons_succ, i64_w, i32_w]
 rfl
 }
 refine pure_ (i := 6) (N := some 45) (v := ?_) (a' := ?_) #[true, false, false, true, false, false, true, false, false] rfl rfl (any_of HT_.out (by kernel_rfl)) (fun _ _ _ h => h) (Or.inl ⟨by rfl, ?_⟩) ?_ ?_
 rotate_left
 {
 intro w'
 go_simp
 with_reducible rfl
 }
 rotate_left
 {
 simp only [Act.put, List.setIfInBounds_toArray, List.set_cons_zero, List.set_cons_succ, i64_w, i32_w]
 rfl
 }
 refine take_ (i := 1) (N := some 40) (v := ?_) (a' := ?_) #[true, true, false, true, false, false, true, false, false] rfl rfl (take_ofW HT_.out HW_.out (by kernel_rfl)) (fun _ _ _ h => h) (Or.inl ⟨by rfl, ?_⟩) hHeld ?_ ?_
 rotate_left
 {
 rintro w' ⟨s0, s1, s2⟩
 go_simp
 with_reducible rfl
 }
 rotate_left
 {
 simp only [Act.put, List.setIfInBounds_toArray, List.set_cons_zero, List.set_cons_succ, i64_w, i32_w]
 rfl
 }
 refine take_ (i := 4) (N := some 43) (v := ?_) (a' := ?_) #[true, true, false, true, true, false, true, false, false] rfl rfl (take_ofW HT_.out HW_.out (by kernel_rfl)) (fun _ _ _ h => h) (Or.inl ⟨by rfl, ?_⟩) hHeld ?_ ?_
 rotate_left
 {
 rintro w' ⟨s0, s1, s2⟩
 go_simp
 with_reducible rfl
 }
 rotate_left
 {
 simp only [Act.put, List.setIfInBounds_toArray, List.set_cons_zero, List.set_cons_succ, i64_w, i32_w]
 rfl
 }
 refine one_ (i := 2) (N := some 41) #[true, true, true, true, true, false, true, false, false] rfl rfl (one_of HT_.out (by kernel_rfl)) (by decide) (fun K hK => ?_)
 refine goes_ Try.func45 (by kernel_rfl) rfl #[.slice none 0 0, .int .i64 2, .int .i64 ag] (by rfl) rfl rfl wT ?_
 refine (impl_put.calls ak (fun k_ => some k_ = (.slice none 0 0 : Value).ownBlock) (.slice none 0 0) ([] : List Int) 2 ag aT w _ ?side1 ?side2 A1011.out).mono ?_
 (case side1 => repeat (first | (with_reducible first | exact HB.out | apply below_alloc | apply pw_below_drewN | apply below_drew1 | refine below_set ?_ bB.out) | exact HB.out))
 (case side2 => exact Kd.R_nil _ _ _ _ _)
 rintro e b4 ⟨ca, rfl, aH, hb, hkp⟩
 refine ⟨_, rfl, ?_⟩
 have n0_ := Aside0.mk (blk_kept (Bh aa) hkp (fun hs_ => (fun e_ => by simp [Value.ownBlock] at e_) hs_))
 have n1_ := Aside0.mk (Kd.R_mono (ok' := fun k_ => True) aH (fun k_ hk_ => trivial))
 have n2_ := Aside0.mk (hb)
 clear aa
 clear HB
 have aa := n0_
 have bp := n1_
 have HB := n2_
 clear n0_ n1_ n2_
 (try clear hb)
 (try clear hkp)
 (try clear aH)
 obtain ⟨br, bs, bD⟩ := Kd.R_slice bp.out
 (first | subst bD | (injection bD with f1_ f2_ f3_; have f4_ := f1_.symm; have f5_ := f3_.symm; clear f1_ f2_ f3_; subst f4_; subst f5_))
 refine hK.out _ _ ⟨(blk_cell aa.out 0).trans rfl, (blk_cell aa.out 1).trans rfl, (blk_cell aa.out 2).trans rfl⟩ (fun hHeld => ?_)
 clear hK K
 refine norm_ (a' := ?_) ?_ ?_
 rotate_left
 {
 show Act.put _ (some 41) _ = _
 simp only [Act.put, List.setIfInBounds_toArray, List.set_cons_zero, List.set_cons_succ, i64_w, i32_w]
 rfl
 }
 refine one_ (i := 5) (N := some 44) #[true, true, true, true, true, true, true, false, false] rfl rfl (one_of HT_.out (by kernel_rfl)) (by decide) (fun K hK => ?_)
 refine goes_ Try.func45 (by kernel_rfl) rfl #[.slice br aT.length bs, .int .i64 2, .int .i64 af] (by rfl) rfl rfl wT ?_
 with_reducible refine (impl_put.calls ak (fun k_ => some k_ = (.slice br aT.length bs : Value).ownBlock) (.slice br aT.length bs) aT 2 af aJ w _ ?side1 ?side2 A1012.out).mono ?_
 (case side1 => repeat (first | (with_reducible first | exact HB.out | apply below_alloc | apply pw_below_drewN | apply below_drew1 | refine below_set ?_ bB.out) | exact HB.out))
 (case side2 => exact Kd.R_tight rfl bp.out)
 rintro e b5 ⟨cb, rfl, aH, hb, hkp⟩
 refine ⟨_, rfl, ?_⟩
 have n0_ := Aside0.mk (blk_kept (Bh aa) hkp (fun hs_ => (fun e_ => (Kd.R_ne bp.out aa.out (by decide)) e_) hs_))
 have n1_ := Aside0.mk (Kd.R_mono (ok' := fun k_ => True) aH (fun k_ hk_ => trivial))
 have n2_ := Aside0.mk (hb)
 clear aa
 clear HB
 clear bp
 have aa := n0_
 have bq := n1_
 have HB := n2_
 clear n0_ n1_ n2_
 (try clear hb)
 (try clear hkp)
 (try clear aH)
 obtain ⟨bu, bv, bE⟩ := Kd.R_slice bq.out
 (first | subst bE | (injection bE with f1_ f2_ f3_; have f4_ := f1_.symm; have f5_ := f3_.symm; clear f1_ f2_ f3_; subst f4_; subst f5_))
 refine hK.out _ _ ⟨(blk_cell aa.out 0).trans rfl, (blk_cell aa.out 1).trans rfl, (blk_cell aa.out 2).trans rfl⟩ (fun hHeld => ?_)
 clear hK K
 refine norm_ (a' := ?_) ?_ ?_
 rotate_left
 {
 show Act.put _ (some 44) _ = _
 simp only [Act.put, List.setIfInBounds_toArray, List.set_cons_zero, List.set_cons_succ, i64_w, i32_w]
 rfl
 }
 refine one_ (i := 7) (N := some 46) #[true, true, true, true, true, true, true, true, false] rfl rfl (one_of HT_.out (by kernel_rfl)) (by decide) (fun K hK => ?_)
 refine goes_ Try.func45 (by kernel_rfl) rfl #[.slice bu aJ.length bv, .int .i64 2, .int .i64 (wrap64 (8 + (ad.length : Int)))] (by rfl) rfl rfl wT ?_
 with_reducible refine (impl_put.calls ak (fun k_ => some k_ = (.slice bu aJ.length bv : Value).ownBlock) (.slice bu aJ.length bv) aJ 2 (wrap64 (8 + (ad.length : Int))) aq w _ ?side1 ?side2 A1013.out).mono ?_
 (case side1 => repeat (first | (with_reducible first | exact HB.out | apply below_alloc | apply pw_below_drewN | apply below_drew1 | refine below_set ?_ bB.out) | exact HB.out))
 (case side2 => exact Kd.R_tight rfl bq.out)
 rintro e bT ⟨bV, rfl, aH, hb, hkp⟩
 refine ⟨_, rfl, ?_⟩
 have n0_ := Aside0.mk (blk_kept (Bh aa) hkp (fun hs_ => (fun e_ => (Kd.R_ne bq.out aa.out (by decide)) e_) hs_))
 have n1_ := Aside0.mk (Kd.R_mono (ok' := fun k_ => True) aH (fun k_ hk_ => trivial))
 have n2_ := Aside0.mk (hb)
 clear aa
 clear HB
 clear bq
 have aa := n0_
 have av := n1_
 have HB := n2_
 clear n0_ n1_ n2_
 (try clear hb)
 (try clear hkp)
 (try clear aH)
 refine hK.out _ _ ⟨(blk_cell aa.out 0).trans rfl, (blk_cell aa.out 1).trans rfl, (blk_cell aa.out 2).trans rfl⟩ (fun hHeld => ?_)
 clear hK K
 refine norm_ (a' := ?_) ?_ ?_
 rotate_left
 {
 show Act.put _ (some 46) _ = _
 simp only [Act.put, List.setIfInBounds_toArray, List.set_cons_zero, List.set_cons_succ, i64_w, i32_w]
 rfl
 }
 refine pure_ (i := 8) (N := some 9) (v := ?_) (a' := ?_) #[true, true, true, true, true, true, true, true, true] rfl rfl (any_of HT_.out (by kernel_rfl)) (fun _ _ _ h => h) (Or.inl ⟨by rfl, ?_⟩) ?_ ?_
 rotate_left
 {
 intro w'
 go_simp
 with_reducible rfl
 }
 rotate_left
 {
 simp only [Act.put, List.setIfInBounds_toArray, List.set_cons_zero, List.set_cons_succ, i64_w, i32_w]
 rfl
 }
 refine done_ (done_of HT_.out (by kernel_rfl)) ?_
 try go_wp2
 have n0_ := Aside0.mk (Kd.R_drew av.out)
 have n1_ := Aside0.mk (blk_drew aa.out)
 have n2_ := Aside0.mk (below_drew1 HB.out)
 clear av
 clear aa
 clear HB
 have av := n0_
 have aa := n1_
 have HB := n2_
 clear n0_ n1_ n2_
 refine start_ (n := 7) (S := fun w' => w'.cell? ⟨aI, 0, none⟩ = some (.int .i64 ag) ∧ w'.cell? ⟨aI, 1, none⟩ = some (.int .i64 af) ∧ w'.cell? ⟨aI, 2, none⟩ = some (.slice A0_2 ad.length a8)) (ds := []) #[false, false, false, false, false, false, false] (by kernel_rfl) rfl rfl ⟨(blk_cell aa.out 0).trans rfl, (blk_cell aa.out 1).trans rfl, (blk_cell aa.out 2).trans rfl⟩ (fun hHeld => ?_)
 generalize bT.drew = b6 at av aa HB hHeld ⊢
 refine pure_ (i := 0) (N := some 47) (v := ?_) (a' := ?_) #[true, false, false, false, false, false, false] rfl rfl (by kernel_rfl) (fun _ _ _ h => h) (Or.inl ⟨by rfl, ?_⟩) ?_ ?_
 rotate_left
 {
 intro w'
 go_simp
 with_reducible rfl
 }
 rotate_left
 {
 simp only [Act.put, List.setIfInBounds_toArray, List.set_cons_zero, List.set_cons_succ, i64_w, i32_w]
 rfl
 }
 refine pure_ (i := 3) (N := some 50) (v := ?_) (a' := ?_) #[true, false, false, true, false, false, false] rfl rfl (by kernel_rfl) (fun _ _ _ h => h) (Or.inl ⟨by rfl, ?_⟩) ?_ ?_
 rotate_left
 {
 intro w'
 go_simp
 with_reducible rfl
 }
 rotate_left
 {
 simp only [Act.put, List.setIfInBounds_toArray, List.set_cons_zero, List.set_cons_succ, i64_w, i32_w]
 rfl
 }
 refine take_ (i := 4) (N := some 51) (v := ?_) (a' := ?_) #[true, false, false, true, true, false, false] rfl rfl (by kernel_rfl) (fun _ _ _ h => h) (Or.inl ⟨by rfl, ?_⟩) hHeld ?_ ?_
 rotate_left
 {
 rintro w' ⟨s0, s1, s2⟩
 go_simp
 with_reducible rfl
 }
 rotate_left
 {
 simp only [Act.put, List.setIfInBounds_toArray, List.set_cons_zero, List.set_cons_succ, i64_w, i32_w]
 rfl
 }
 refine one_ (i := 1) (N := some 48) #[true, true, false, true, true, false, false] rfl rfl (by kernel_rfl) (by decide) (fun K hK => ?_)
 refine Kd.R_lit_step (Kd.int .u8) _ 5 ?hg (N := 48) ?hd (xs := ([0, 0] : List Int)) (inner := [.int .u8 0, .int .u8 0]) (ok := fun _ => True) (okp := fun _ => True) ?hr ?hp (fun _ hk => hk) trivial (Below.refl _ _) (Nat.le_refl _) (by simp) ?_; (case hd => rfl); (case hg => rfl); (case hr => first | (go_simp; done) | (go_simp; rfl)); (case hp => exact (Reps.one (show Kd.M (Kd.int .u8) _ _ _ 0 [.int .u8 0] from rfl) (Reps.one (show Kd.M (Kd.int .u8) _ _ _ 0 [.int .u8 0] from rfl) (Reps.none _ _))))
 intro cc b7 aK hb hg_ hnew_
 clear hg_ hnew_
 (first | rw [← Ny324.out] at aK | (simp only [Int.reduceToNat] at aK; rw [← Ny324.out] at aK))
 have n0_ := Aside0.mk (Kd.R_elder' (Rh av) (Kd.R_base aK) hb)
 have n1_ := Aside0.mk (Kd.R_lower (Kd.R_new' aK (Kd.R_lt (Rh av))) (below_size wB))
 have n2_ := Aside0.mk (blk_below (Bh aa) hb)
 have n3_ := Aside0.mk (below_step wB hb)
 clear av
 clear aa
 clear HB
 have av := n0_
 have aw := n1_
 have aa := n2_
 have HB := n3_
 clear n0_ n1_ n2_ n3_
 clear hb aK
 obtain ⟨bF, bG, bH⟩ := Kd.R_slice aw.out
 (first | subst bH | (injection bH with f1_ f2_ f3_; have f4_ := f1_.symm; have f5_ := f3_.symm; clear f1_ f2_ f3_; subst f4_; subst f5_))
 refine hK.out _ _ ⟨(blk_cell aa.out 0).trans rfl, (blk_cell aa.out 1).trans rfl, (blk_cell aa.out 2).trans rfl⟩ (fun hHeld => ?_)
 clear hK K
 refine norm_ (a' := ?_) ?_ ?_
 rotate_left
 {
 show Act.put _ (some 48) _ = _
 simp only [Act.put, List.setIfInBounds_toArray, List.set_cons_zero, List.set_cons_succ, i64_w, i32_w]
 rfl
 }
 refine one_ (i := 2) (N := some 49) #[true, true, true, true, true, false, false] rfl rfl (by kernel_rfl) (by decide) (fun K hK => ?_)
 refine Kd.R_append_rows_step (Kd.int .u8) (w0 := w) w.heap.size (by rfl) (.tmp 47) (.tmp 48) 22 5 (.int .u8 0) 1 rfl Try.underlying22 info5 rfl (by decide) (by omega) bV aq ao _ _ _ (fun k_ => some k_ ≠ (.slice bF ao.length bG : Value).ownBlock) (fun _ => False) rfl rfl ?aO ?aR (fun _ _ h => h) (fun _ h => h.elim) ?aF ?aB ?aS ?aL ?_
 (case aR => exact Ch aw)
 (case aB => exact wB)
 (case aF => exact (fun k_ hk => Kd.fresh' (Kd.R_lt (Rh aw)) k_ hk))
 (case aO => exact (Kd.R_mono (Rh av) (fun _ hk => hk.2)))
 (case aS => exact (below_size wB))
 (case aL => have := LMc1014.out; omega)
 intro bW b8 ho hb hg hat
 rw [← Ny327.out] at ho
 have n0_ := Aside0.mk (blk_grown (Bh aa) hg (Kd.R_ne av.out aa.out (by decide)))
 have n1_ := Aside0.mk (Kd.R_after (ok := (fun _ => True)) (Rh aw) hg hat)
 have n2_ := Aside0.mk (hb)
 have n3_ := Aside0.mk (ho)
 clear aa
 clear aw
 clear HB
 clear av
 have aa := n0_
 have aw := n1_
 have HB := n2_
 have bC := n3_
 clear n0_ n1_ n2_ n3_
 clear ho hb hg hat
 refine hK.out _ _ ⟨(blk_cell aa.out 0).trans rfl, (blk_cell aa.out 1).trans rfl, (blk_cell aa.out 2).trans rfl⟩ (fun hHeld => ?_)
 clear hK K
 refine norm_ (a' := ?_) ?_ ?_
 rotate_left
 {
 show Act.put _ (some 49) _ = _
 simp only [Act.put, List.setIfInBounds_toArray, List.set_cons_zero, List.set_cons_succ, i64_w, i32_w]
 rfl
 }
 refine one_ (i := 5) (N := some 52) #[true, true, true, true, true, true, false] rfl rfl (by kernel_rfl) (by decide) (fun K hK => ?_)
 refine Kd.R_append_rows_step (Kd.int .u8) (w0 := w) w.heap.size (by rfl) (.tmp 49) (.tmp 51) 22 5 (.int .u8 0) 1 rfl Try.underlying22 info5 rfl (by decide) (by omega) bW an ad _ _ _ (fun k_ => some k_ ≠ (.slice bF ao.length bG : Value).ownBlock) (fun _ => False) rfl rfl ?aO ?aR (fun _ _ h => h) (fun _ h => h.elim) ?aF ?aB ?aS ?aL ?_
 (case aR => exact Kd.C_below HR0_2.out wB)
 (case aB => exact wB)
 (case aF => exact (fun k_ hk => Kd.fresh' (Kd.R_lt (Rh aw)) k_ hk))
 (case aO => exact (Rh bC))
 (case aS => exact (below_size wB))
 (case aL => have := LMc1015.out; omega)
 intro cd b9 ho hb hg hat
 rw [← Ny330.out] at ho
 have n0_ := Aside0.mk (blk_grown (Bh aa) hg (Kd.R_ne bC.out aa.out (by decide)))
 have n1_ := Aside0.mk (Kd.R_after (ok := (fun _ => True)) (Rh aw) hg hat)
 have n2_ := Aside0.mk (hb)
 have n3_ := Aside0.mk (ho)
 clear aa
 clear aw
 clear HB
 clear bC
 have aa := n0_
 have aw := n1_
 have HB := n2_
 have ac := n3_
 clear n0_ n1_ n2_ n3_
 clear ho hb hg hat
 refine hK.out _ _ ⟨(blk_cell aa.out 0).trans rfl, (blk_cell aa.out 1).trans rfl, (blk_cell aa.out 2).trans rfl⟩ (fun hHeld => ?_)
 clear hK K
 refine norm_ (a' := ?_) ?_ ?_
 rotate_left
 {
 show Act.put _ (some 52) _ = _
 simp only [Act.put, List.setIfInBounds_toArray, List.set_cons_zero, List.set_cons_succ, i64_w, i32_w]
 rfl
 }
 refine pure_ (i := 6) (N := some 9) (v := ?_) (a' := ?_) #[true, true, true, true, true, true, true] rfl rfl (by kernel_rfl) (fun _ _ _ h => h) (Or.inl ⟨by rfl, ?_⟩) ?_ ?_
 rotate_left
 {
 intro w'
 go_simp
 with_reducible rfl
 }
 rotate_left
 {
 simp only [Act.put, List.setIfInBounds_toArray, List.set_cons_zero, List.set_cons_succ, i64_w, i32_w]
 rfl
 }
 refine done_ (by kernel_rfl) ?_
 have n_ := Aside0.mk (Kd.R_mono (ok' := (fun _ => True)) ac.out (fun k_ hk => trivial))
 clear ac
 have ac := n_
 clear n_
 (try clear aw)
 )
 {
 try go_wp2_with (first | ((with_reducible refine gate_callee (f := 30) rfl ?_); refine goesL_ (some 56) rfl rfl Try.func30 (by kernel_rfl) rfl #[.int .i64 a1, .int .i64 a2, .int .i64 17, .int .i64 (wrap64 (8 + (ad.length : Int)))] rfl wT ?_; (with_reducible refine (impl_FalseHead.calls ak a1 a2 17 (wrap64 (8 + (ad.length : Int))) ai _ A1016.out).mono ?_); rintro e bU ⟨bO, rfl, aH, hb⟩; refine ⟨_, rfl, ?_⟩; have aN := Aside0.mk (Kd.R_lower (Kd.R_new' aH (Kd.R_lt (Rh ac))) (below_size wB)); replace ac := Aside0.mk (Kd.R_elder' (Rh ac) (Kd.R_base aH) hb); replace aa := Aside0.mk (blk_below (Bh aa) hb); replace HB := Aside0.mk (below_step wB hb); (try clear hb); (try clear hb2); (try clear hk); (try clear hi); (try clear aH); obtain ⟨bw, aj, bx⟩ := Kd.R_slice ac.out; subst bx) | ((with_reducible refine gate_builtin (b := .append) (xs := #[.tmp 56, .tmp 57]) rfl ?_); at_builtin; refine Kd.R_append_rows (Kd.int .u8) (w0 := w) w.heap.size rfl (.tmp 56) (.tmp 57) 22 5 (.int .u8 0) 1 rfl Try.underlying22 info5 rfl (by decide) (by omega) bO ai ab _ _ _ (fun k_ => some k_ ≠ (.slice bw ab.length aj : Value).ownBlock) (fun _ => False) rfl rfl ?aO ?aR (fun _ _ h => h) (fun _ h => h.elim) ?aF ?aB ?aS ?aL ?_; (case aR => exact Ch ac); (case aB => exact wB); (case aF => exact (fun k_ hk => Kd.fresh' (Kd.R_lt (Rh ac)) k_ hk)); (case aO => exact (Kd.R_mono (Rh aN) (fun _ hk => hk.2))); (case aS => exact (below_size wB)); (case aL => have := LMc1017.out; omega); intro bX al ho hb hg hat; rw [← Ny336.out] at ho; replace aa := Aside0.mk (blk_grown (Bh aa) hg (Kd.R_ne aN.out aa.out (by decide))); replace ac := Aside0.mk (Kd.R_after (ok := (fun _ => True)) (Rh ac) hg hat); replace HB := Aside0.mk (hb); have ah := Aside0.mk (ho); clear aN; clear ho hb hg hat; obtain ⟨ar, au, bz⟩ := Kd.R_slice ah.out; subst bz) | ((with_reducible refine gate_callee (f := 29) rfl ?_); refine goesL_ (some 59) rfl rfl Try.func29 (by kernel_rfl) rfl #[.slice ar aE.length au] rfl wT ?_; (with_reducible refine (impl_Checksum.calls ak _ _ aE ae _ ?side1 ?side2 A1018.out).mono ?_); (case side1 => exact Ch ah); (case side2 => exact (Kd.R_reads' ah.out).2.1); rintro e w' ⟨rfl, ⟨nd, rfl⟩⟩; refine ⟨_, rfl, ?_⟩; (try (rw [drewN_self al]; generalize hq_ : World.drewN al _ = al; replace ac := Aside0.mk (Kd.R_at hq_ ac.out); replace ah := Aside0.mk (Kd.R_at hq_ ah.out); replace aa := Aside0.mk (blk_at hq_ aa.out); replace HB := Aside0.mk (below_at hq_ HB.out); clear hq_; (try (obtain ⟨⟨ax, ay, az⟩, aA, aC, aD⟩ := cells3 aa.out)))); have p1021 : 0 ≤ (6 : Int) := (by omega); have q1021 : (6 : Int) < ((ab.length : Int) : Int) := of_decide_eq_true (by first | (with_reducible assumption) | assumption); have qi1021 : (6 < ab.length) = True := eq_true (by omega); obtain ⟨go1021, bZ, bI, bJ, gl1021, cl1021, HG1021⟩ := Kd.R_form ac.out (by omega); (first | cases bI | (injection bI with ea_ en_ ec_; (first | subst ea_ | (injection ea_ with ea_; subst ea_)); subst ec_; clear en_)); have GB1021 := Aside0.mk bJ; have GG1021 := Aside0.mk HG1021; clear bJ gl1021 HG1021; obtain ⟨hx1021_0, hf1021_0⟩ := Kd.R_celln 0 ac.out (6 : Int) p1021 q1021; (try rw [show ((6 : Int)).toNat = 6 from rfl] at hx1021_0); (try simp only [Nat.reduceMul, Nat.zero_mul, Nat.zero_add, Nat.reduceAdd] at hx1021_0); (try rw [show ((6 : Int)).toNat = 6 from rfl] at hf1021_0); (try simp only [Nat.reduceMul, Nat.zero_mul, Nat.zero_add, Nat.reduceAdd] at hf1021_0); replace p1021 := eq_true p1021; replace q1021 := eq_true q1021; have n_ := Aside0.mk (Kd.R_mono (ok' := (fun k_ => some k_ ≠ (.slice ar aE.length au : Value).ownBlock)) ac.out (fun k_ hk => hk.2)); clear ac; have ac := n_; clear n_; obtain ⟨hy2018_, hz2018_⟩ := Kd.R_celln 0 ac.out (6 : Int) (by omega) (of_decide_eq_true (by first | (with_reducible assumption) | assumption)); (try simp only [Int.reduceToNat, Int.toNat_zero, Int.toNat_ofNat, Nat.reduceMul, Nat.zero_mul, Nat.zero_add] at hy2018_ hz2018_); (try rw [show ((6 : Int)).toNat = 6 from rfl] at hy2018_); (try rw [show ((6 : Int)).toNat = 6 from rfl] at hz2018_); have HP2018 := Kd.R_putg ac.out (6 : Int) (65535 / 256)) | ((with_reducible refine gate_store (t := 5) (p := 69) rfl ?_); (try (rw [drewN_self al]; generalize hq_ : World.drewN al _ = al; replace ac := Aside0.mk (Kd.R_at hq_ ac.out); replace ah := Aside0.mk (Kd.R_at hq_ ah.out); replace aa := Aside0.mk (blk_at hq_ aa.out); replace HB := Aside0.mk (below_at hq_ HB.out); clear hq_; (try (obtain ⟨⟨ax, ay, az⟩, aA, aC, aD⟩ := cells3 aa.out)); (try (have n_ := Aside0.mk (Kd.R_mono (ok' := (fun k_ => some k_ ≠ (.slice ar aE.length au : Value).ownBlock)) ac.out (fun k_ hk => hk.2)); clear ac; have ac := n_; clear n_)); (try (obtain ⟨hy2018_, hz2018_⟩ := Kd.R_celln 0 ac.out (6 : Int) (by omega) (of_decide_eq_true (by first | (with_reducible assumption) | assumption)))); (try (try simp only [Int.reduceToNat, Int.toNat_zero, Int.toNat_ofNat, Nat.reduceMul, Nat.zero_mul, Nat.zero_add] at hy2018_ hz2018_)); (try (try rw [show ((6 : Int)).toNat = 6 from rfl] at hy2018_)); (try (try rw [show ((6 : Int)).toNat = 6 from rfl] at hz2018_)); (try (have HP2018 := Kd.R_putg ac.out (6 : Int) (65535 / 256))))); refine store_event (t := 5) (p := 69) (v := ?_) (w1 := (al.setCell ⟨go1021, (6 : Int).toNat, none⟩ (.int .u8 (65535 / 256)))) ?hg ?ho ?hn ?hr ?_; (case ho => rfl); (case hg => rfl); (case hn => rfl); (case hr => first | (go_simp; done) | (go_simp; rfl)); intro am hw; have hg : al.grownBy am (some go1021) := (by rw [hw]; exact HP2018.2); have hp_ : Kd.R (Kd.int .u8) 5 am w.heap.size (fun k_ => some k_ ≠ (.slice ar aE.length au : Value).ownBlock) (.slice (some ⟨go1021, 0, none⟩) ab.length aj) bM := (by rw [hw, Ny340.out]; exact HP2018.1); clear HP2018; replace aa := Aside0.mk (blk_grown (Bh aa) hg (Kd.R_ne ac.out aa.out (by decide))); replace ac := Aside0.mk (hp_); replace ah := Aside0.mk (Kd.R_after (v := (.slice (some ⟨go1021, 0, none⟩) ab.length aj)) (v1 := (.slice (some ⟨go1021, 0, none⟩) ab.length aj)) (ok := (fun _ => True)) (Kd.R_mono (Rh ah) (fun _ hk => ⟨trivial, hk⟩)) hg (.inl rfl)); replace HB := Aside0.mk ((by rw [hw]; exact below_set (HB.out) GB1021.out : Below w.heap.size w am)); clear hg hw hp_; have p1023 : 0 ≤ (7 : Int) := (by omega); have q1023 : (7 : Int) < ((ab.length : Int) : Int) := of_decide_eq_true (by first | (with_reducible assumption) | assumption); have qi1023 : (7 < ab.length) = True := eq_true (by omega); obtain ⟨hx1023_0, hf1023_0⟩ := Kd.R_celln 0 ac.out (7 : Int) p1023 q1023; (try rw [show ((7 : Int)).toNat = 7 from rfl] at hx1023_0); (try simp only [Nat.reduceMul, Nat.zero_mul, Nat.zero_add, Nat.reduceAdd] at hx1023_0); (try rw [show ((7 : Int)).toNat = 7 from rfl] at hf1023_0); (try simp only [Nat.reduceMul, Nat.zero_mul, Nat.zero_add, Nat.reduceAdd] at hf1023_0); replace p1023 := eq_true p1023; replace q1023 := eq_true q1023; obtain ⟨hy2020_, hz2020_⟩ := Kd.R_celln 0 ac.out (7 : Int) (by omega) (of_decide_eq_true (by first | (with_reducible assumption) | assumption)); (try simp only [Int.reduceToNat, Int.toNat_zero, Int.toNat_ofNat, Nat.reduceMul, Nat.zero_mul, Nat.zero_add] at hy2020_ hz2020_); (try rw [show ((7 : Int)).toNat = 7 from rfl] at hy2020_); (try rw [show ((7 : Int)).toNat = 7 from rfl] at hz2020_); have HP2020 := Kd.R_putg ac.out (7 : Int) ((65535) % 256)) | ((with_reducible refine gate_store (t := 5) (p := 70) rfl ?_); (try (rw [drewN_self am]; generalize hq_ : World.drewN am _ = am; replace ac := Aside0.mk (Kd.R_at hq_ ac.out); replace ah := Aside0.mk (Kd.R_at hq_ ah.out); replace aa := Aside0.mk (blk_at hq_ aa.out); replace HB := Aside0.mk (below_at hq_ HB.out); clear hq_; (try (obtain ⟨⟨ax, ay, az⟩, aA, aC, aD⟩ := cells3 aa.out)); (try (obtain ⟨hy2020_, hz2020_⟩ := Kd.R_celln 0 ac.out (7 : Int) (by omega) (of_decide_eq_true (by first | (with_reducible assumption) | assumption)))); (try (try simp only [Int.reduceToNat, Int.toNat_zero, Int.toNat_ofNat, Nat.reduceMul, Nat.zero_mul, Nat.zero_add] at hy2020_ hz2020_)); (try (try rw [show ((7 : Int)).toNat = 7 from rfl] at hy2020_)); (try (try rw [show ((7 : Int)).toNat = 7 from rfl] at hz2020_)); (try (have HP2020 := Kd.R_putg ac.out (7 : Int) ((65535) % 256))))); refine store_event (t := 5) (p := 70) (v := ?_) (w1 := (am.setCell ⟨go1021, (7 : Int).toNat, none⟩ (.int .u8 ((65535) % 256)))) ?hg ?ho ?hn ?hr ?_; (case ho => rfl); (case hg => rfl); (case hn => rfl); (case hr => first | (go_simp; done) | (go_simp; rfl)); intro aP hw; have hg : am.grownBy aP (some go1021) := (by rw [hw]; exact HP2020.2); have hp_ : Kd.R (Kd.int .u8) 5 aP w.heap.size (fun k_ => some k_ ≠ (.slice ar aE.length au : Value).ownBlock) (.slice (some ⟨go1021, 0, none⟩) ab.length aj) bQ := (by rw [hw, Ny341.out]; exact HP2020.1); clear HP2020; replace aa := Aside0.mk (blk_grown (Bh aa) hg (Kd.R_ne ac.out aa.out (by decide))); replace ac := Aside0.mk (hp_); replace ah := Aside0.mk (Kd.R_after (v := (.slice (some ⟨go1021, 0, none⟩) ab.length aj)) (v1 := (.slice (some ⟨go1021, 0, none⟩) ab.length aj)) (ok := (fun _ => True)) (Rh ah) hg (.inl rfl)); replace HB := Aside0.mk ((by rw [hw]; exact below_set (HB.out) GB1021.out : Below w.heap.size w aP)); clear hg hw hp_))
 go_ret2
 exact ⟨_, by first | rfl | (simp [errW_none, errW_some] <;> rfl) | (simp [*, errW_none, errW_some] <;> rfl), Kd.R_mono (Rh ac) (fun _ hk => trivial), wB⟩
 }
 {
 try go_wp2_with (first | ((with_reducible refine gate_callee (f := 30) rfl ?_); refine goesL_ (some 56) rfl rfl Try.func30 (by kernel_rfl) rfl #[.int .i64 a1, .int .i64 a2, .int .i64 17, .int .i64 (wrap64 (8 + (ad.length : Int)))] rfl wT ?_; (with_reducible refine (impl_FalseHead.calls ak a1 a2 17 (wrap64 (8 + (ad.length : Int))) ai _ A1016.out).mono ?_); rintro e bU ⟨bO, rfl, aH, hb⟩; refine ⟨_, rfl, ?_⟩; have aN := Aside0.mk (Kd.R_lower (Kd.R_new' aH (Kd.R_lt (Rh ac))) (below_size wB)); replace ac := Aside0.mk (Kd.R_elder' (Rh ac) (Kd.R_base aH) hb); replace aa := Aside0.mk (blk_below (Bh aa) hb); replace HB := Aside0.mk (below_step wB hb); (try clear hb); (try clear hb2); (try clear hk); (try clear hi); (try clear aH); obtain ⟨bw, aj, bx⟩ := Kd.R_slice ac.out; subst bx) | ((with_reducible refine gate_builtin (b := .append) (xs := #[.tmp 56, .tmp 57]) rfl ?_); at_builtin; refine Kd.R_append_rows (Kd.int .u8) (w0 := w) w.heap.size rfl (.tmp 56) (.tmp 57) 22 5 (.int .u8 0) 1 rfl Try.underlying22 info5 rfl (by decide) (by omega) bO ai ab _ _ _ (fun k_ => some k_ ≠ (.slice bw ab.length aj : Value).ownBlock) (fun _ => False) rfl rfl ?aO ?aR (fun _ _ h => h) (fun _ h => h.elim) ?aF ?aB ?aS ?aL ?_; (case aR => exact Ch ac); (case aB => exact wB); (case aF => exact (fun k_ hk => Kd.fresh' (Kd.R_lt (Rh ac)) k_ hk)); (case aO => exact (Kd.R_mono (Rh aN) (fun _ hk => hk.2))); (case aS => exact (below_size wB)); (case aL => have := LMc1017.out; omega); intro bX al ho hb hg hat; rw [← Ny336.out] at ho; replace aa := Aside0.mk (blk_grown (Bh aa) hg (Kd.R_ne aN.out aa.out (by decide))); replace ac := Aside0.mk (Kd.R_after (ok := (fun _ => True)) (Rh ac) hg hat); replace HB := Aside0.mk (hb); have ah := Aside0.mk (ho); clear aN; clear ho hb hg hat; obtain ⟨ar, au, bz⟩ := Kd.R_slice ah.out; subst bz) | ((with_reducible refine gate_callee (f := 29) rfl ?_); refine goesL_ (some 59) rfl rfl Try.func29 (by kernel_rfl) rfl #[.slice ar aE.length au] rfl wT ?_; (with_reducible refine (impl_Checksum.calls ak _ _ aE ae _ ?side1 ?side2 A1018.out).mono ?_); (case side1 => exact Ch ah); (case side2 => exact (Kd.R_reads' ah.out).2.1); rintro e w' ⟨rfl, ⟨nd, rfl⟩⟩; refine ⟨_, rfl, ?_⟩; (try (rw [drewN_self al]; generalize hq_ : World.drewN al _ = al; replace ac := Aside0.mk (Kd.R_at hq_ ac.out); replace ah := Aside0.mk (Kd.R_at hq_ ah.out); replace aa := Aside0.mk (blk_at hq_ aa.out); replace HB := Aside0.mk (below_at hq_ HB.out); clear hq_; (try (obtain ⟨⟨ax, ay, az⟩, aA, aC, aD⟩ := cells3 aa.out)))); have p1025 : 0 ≤ (6 : Int) := (by omega); have q1025 : (6 : Int) < ((ab.length : Int) : Int) := of_decide_eq_true (by first | (with_reducible assumption) | assumption); have qi1025 : (6 < ab.length) = True := eq_true (by omega); obtain ⟨go1025, b0, bK, bL, gl1025, cl1025, HG1025⟩ := Kd.R_form ac.out (by omega); (first | cases bK | (injection bK with ea_ en_ ec_; (first | subst ea_ | (injection ea_ with ea_; subst ea_)); subst ec_; clear en_)); have GB1025 := Aside0.mk bL; have GG1025 := Aside0.mk HG1025; clear bL gl1025 HG1025; obtain ⟨hx1025_0, hf1025_0⟩ := Kd.R_celln 0 ac.out (6 : Int) p1025 q1025; (try rw [show ((6 : Int)).toNat = 6 from rfl] at hx1025_0); (try simp only [Nat.reduceMul, Nat.zero_mul, Nat.zero_add, Nat.reduceAdd] at hx1025_0); (try rw [show ((6 : Int)).toNat = 6 from rfl] at hf1025_0); (try simp only [Nat.reduceMul, Nat.zero_mul, Nat.zero_add, Nat.reduceAdd] at hf1025_0); replace p1025 := eq_true p1025; replace q1025 := eq_true q1025; have n_ := Aside0.mk (Kd.R_mono (ok' := (fun k_ => some k_ ≠ (.slice ar aE.length au : Value).ownBlock)) ac.out (fun k_ hk => hk.2)); clear ac; have ac := n_; clear n_; obtain ⟨hy2018_, hz2018_⟩ := Kd.R_celln 0 ac.out (6 : Int) (by omega) (of_decide_eq_true (by first | (with_reducible assumption) | assumption)); (try simp only [Int.reduceToNat, Int.toNat_zero, Int.toNat_ofNat, Nat.reduceMul, Nat.zero_mul, Nat.zero_add] at hy2018_ hz2018_); (try rw [show ((6 : Int)).toNat = 6 from rfl] at hy2018_); (try rw [show ((6 : Int)).toNat = 6 from rfl] at hz2018_); have HP2018 := Kd.R_putg ac.out (6 : Int) ((ae / 256) % 256)) | ((with_reducible refine gate_store (t := 5) (p := 69) rfl ?_); (try (rw [drewN_self al]; generalize hq_ : World.drewN al _ = al; replace ac := Aside0.mk (Kd.R_at hq_ ac.out); replace ah := Aside0.mk (Kd.R_at hq_ ah.out); replace aa := Aside0.mk (blk_at hq_ aa.out); replace HB := Aside0.mk (below_at hq_ HB.out); clear hq_; (try (obtain ⟨⟨ax, ay, az⟩, aA, aC, aD⟩ := cells3 aa.out)); (try (have n_ := Aside0.mk (Kd.R_mono (ok' := (fun k_ => some k_ ≠ (.slice ar aE.length au : Value).ownBlock)) ac.out (fun k_ hk => hk.2)); clear ac; have ac := n_; clear n_)); (try (obtain ⟨hy2018_, hz2018_⟩ := Kd.R_celln 0 ac.out (6 : Int) (by omega) (of_decide_eq_true (by first | (with_reducible assumption) | assumption)))); (try (try simp only [Int.reduceToNat, Int.toNat_zero, Int.toNat_ofNat, Nat.reduceMul, Nat.zero_mul, Nat.zero_add] at hy2018_ hz2018_)); (try (try rw [show ((6 : Int)).toNat = 6 from rfl] at hy2018_)); (try (try rw [show ((6 : Int)).toNat = 6 from rfl] at hz2018_)); (try (have HP2018 := Kd.R_putg ac.out (6 : Int) ((ae / 256) % 256))))); refine store_event (t := 5) (p := 69) (v := ?_) (w1 := (al.setCell ⟨go1025, (6 : Int).toNat, none⟩ (.int .u8 ((ae / 256) % 256)))) ?hg ?ho ?hn ?hr ?_; (case ho => rfl); (case hg => rfl); (case hn => rfl); (case hr => first | (go_simp; done) | (go_simp; rfl)); intro am hw; have hg : al.grownBy am (some go1025) := (by rw [hw]; exact HP2018.2); have hp_ : Kd.R (Kd.int .u8) 5 am w.heap.size (fun k_ => some k_ ≠ (.slice ar aE.length au : Value).ownBlock) (.slice (some ⟨go1025, 0, none⟩) ab.length aj) bN := (by rw [hw, Ny342.out]; exact HP2018.1); clear HP2018; replace aa := Aside0.mk (blk_grown (Bh aa) hg (Kd.R_ne ac.out aa.out (by decide))); replace ac := Aside0.mk (hp_); replace ah := Aside0.mk (Kd.R_after (v := (.slice (some ⟨go1025, 0, none⟩) ab.length aj)) (v1 := (.slice (some ⟨go1025, 0, none⟩) ab.length aj)) (ok := (fun _ => True)) (Kd.R_mono (Rh ah) (fun _ hk => ⟨trivial, hk⟩)) hg (.inl rfl)); replace HB := Aside0.mk ((by rw [hw]; exact below_set (HB.out) GB1025.out : Below w.heap.size w am)); clear hg hw hp_; have p1027 : 0 ≤ (7 : Int) := (by omega); have q1027 : (7 : Int) < ((ab.length : Int) : Int) := of_decide_eq_true (by first | (with_reducible assumption) | assumption); have qi1027 : (7 < ab.length) = True := eq_true (by omega); obtain ⟨hx1027_0, hf1027_0⟩ := Kd.R_celln 0 ac.out (7 : Int) p1027 q1027; (try rw [show ((7 : Int)).toNat = 7 from rfl] at hx1027_0); (try simp only [Nat.reduceMul, Nat.zero_mul, Nat.zero_add, Nat.reduceAdd] at hx1027_0); (try rw [show ((7 : Int)).toNat = 7 from rfl] at hf1027_0); (try simp only [Nat.reduceMul, Nat.zero_mul, Nat.zero_add, Nat.reduceAdd] at hf1027_0); replace p1027 := eq_true p1027; replace q1027 := eq_true q1027; obtain ⟨hy2020_, hz2020_⟩ := Kd.R_celln 0 ac.out (7 : Int) (by omega) (of_decide_eq_true (by first | (with_reducible assumption) | assumption)); (try simp only [Int.reduceToNat, Int.toNat_zero, Int.toNat_ofNat, Nat.reduceMul, Nat.zero_mul, Nat.zero_add] at hy2020_ hz2020_); (try rw [show ((7 : Int)).toNat = 7 from rfl] at hy2020_); (try rw [show ((7 : Int)).toNat = 7 from rfl] at hz2020_); have HP2020 := Kd.R_putg ac.out (7 : Int) ((ae) % 256)) | ((with_reducible refine gate_store (t := 5) (p := 70) rfl ?_); (try (rw [drewN_self am]; generalize hq_ : World.drewN am _ = am; replace ac := Aside0.mk (Kd.R_at hq_ ac.out); replace ah := Aside0.mk (Kd.R_at hq_ ah.out); replace aa := Aside0.mk (blk_at hq_ aa.out); replace HB := Aside0.mk (below_at hq_ HB.out); clear hq_; (try (obtain ⟨⟨ax, ay, az⟩, aA, aC, aD⟩ := cells3 aa.out)); (try (obtain ⟨hy2020_, hz2020_⟩ := Kd.R_celln 0 ac.out (7 : Int) (by omega) (of_decide_eq_true (by first | (with_reducible assumption) | assumption)))); (try (try simp only [Int.reduceToNat, Int.toNat_zero, Int.toNat_ofNat, Nat.reduceMul, Nat.zero_mul, Nat.zero_add] at hy2020_ hz2020_)); (try (try rw [show ((7 : Int)).toNat = 7 from rfl] at hy2020_)); (try (try rw [show ((7 : Int)).toNat = 7 from rfl] at hz2020_)); (try (have HP2020 := Kd.R_putg ac.out (7 : Int) ((ae) % 256))))); refine store_event (t := 5) (p := 70) (v := ?_) (w1 := (am.setCell ⟨go1025, (7 : Int).toNat, none⟩ (.int .u8 ((ae) % 256)))) ?hg ?ho ?hn ?hr ?_; (case ho => rfl); (case hg => rfl); (case hn => rfl); (case hr => first | (go_simp; done) | (go_simp; rfl)); intro aP hw; have hg : am.grownBy aP (some go1025) := (by rw [hw]; exact HP2020.2); have hp_ : Kd.R (Kd.int .u8) 5 aP w.heap.size (fun k_ => some k_ ≠ (.slice ar aE.length au : Value).ownBlock) (.slice (some ⟨go1025, 0, none⟩) ab.length aj) bR := (by rw [hw, Ny343.out]; exact HP2020.1); clear HP2020; replace aa := Aside0.mk (blk_grown (Bh aa) hg (Kd.R_ne ac.out aa.out (by decide))); replace ac := Aside0.mk (hp_); replace ah := Aside0.mk (Kd.R_after (v := (.slice (some ⟨go1025, 0, none⟩) ab.length aj)) (v1 := (.slice (some ⟨go1025, 0, none⟩) ab.length aj)) (ok := (fun _ => True)) (Rh ah) hg (.inl rfl)); replace HB := Aside0.mk ((by rw [hw]; exact below_set (HB.out) GB1025.out : Below w.heap.size w aP)); clear hg hw hp_))
 go_ret2
 exact ⟨_, by first | rfl | (simp [errW_none, errW_some] <;> rfl) | (simp [*, errW_none, errW_some] <;> rfl), Kd.R_mono (Rh ac) (fun _ hk => trivial), wB⟩
 }
 }
 )

end Go.Proofs.Ytfllcmeakcbiaaa.PFnOneBit
