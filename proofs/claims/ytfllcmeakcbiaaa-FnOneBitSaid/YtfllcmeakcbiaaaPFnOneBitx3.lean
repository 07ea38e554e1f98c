-- Written for this claim by a program of this session (wip/mkprint.py: the print, turned at a few places). Not trusted: Lean checks it.
import Derived.Test.YtfllcmeakcbiaaaPFnOneBitx0
namespace Go.Proofs.Ytfllcmeakcbiaaa.PFnOneBit
open Go.RowKit Go.Proofs.YtfllcmeakcbiaaaW.PrintWords Go.Proofs.YtfllcmeakcbiaaaW.PrintLast Go.Proofs.YtfllcmeakcbiaaaW.PrintMore
attribute [local go_sem] max2_int min2_int max_two min_two max_three min_three max_four min_four   -- for this text's walks alone
set_option linter.unusedVariables false
set_option linter.unusedSimpArgs false

/-! ### laws_lwBegin: function 13 -/
def laws_lwBegin.l0 : Nat → List Int → Int → List Int → Int → Int → Option (Int × Int)
  | 0, _, _, _, _, _ => none
  | k + 1, x0, x6, ac, aa, ab => if x6 < (x0.length : Int) then (if 0 ≤ x6 then (laws_lwBegin.l0 k x0 (wrap64 (x6 + 1)) ac aa (IntKind.u64.wrap ((Go.bits .xor .u64 ab (IntKind.u64.wrap (rd x0 x6))) * 1099511628211))) else (none)) else (some (aa, ab))
def laws_lwBegin.f (k : Nat) (l0 : List Int) (a1 : Int) : Option (Int × Int) := laws_lwBegin.l0 k l0 0 l0 0 (IntKind.u64.wrap (88172645463325252 + (IntKind.u64.wrap (a1 * 977))))
theorem laws_lwBegin.mono_l : ∀ k, (∀ y0 y1 y2 y3 y4, LeO (laws_lwBegin.l0 k y0 y1 y2 y3 y4) (laws_lwBegin.l0 (k + 1) y0 y1 y2 y3 y4))
  | 0 => fun _ _ _ _ _ r h => by simp [laws_lwBegin.l0] at h
  | k + 1 => by
    have ih0 := laws_lwBegin.mono_l k
    · intro y0 y1 y2 y3 y4
      unfold laws_lwBegin.l0
      repeat' first
      | (with_reducible exact ih0 _ _ _ _ _)
      | (with_reducible exact LeO.refl _)
      | (with_reducible exact LeO.none _)
      | (with_reducible refine LeO.ite ?_ ?_)
      | (with_reducible refine LeO.bind ?_ (fun _ => ?_))
      | exact ih0 _ _ _ _ _
      | exact LeO.none _
      | refine LeO.ite ?_ ?_
      | refine LeO.bind ?_ (fun _ => ?_)
theorem laws_lwBegin.mono : ∀ a0 a1 k, LeO (laws_lwBegin.f k a0 a1) (laws_lwBegin.f (k + 1) a0 a1) := by
 intro a0 a1 k
 have ih0 := laws_lwBegin.mono_l k
 unfold laws_lwBegin.f
 repeat' first
     | (with_reducible exact ih0 _ _ _ _ _)
     | (with_reducible exact LeO.refl _)
     | (with_reducible exact LeO.none _)
     | (with_reducible refine LeO.ite ?_ ?_)
     | (with_reducible refine LeO.bind ?_ (fun _ => ?_))
     | exact ih0 _ _ _ _ _
     | exact LeO.none _
     | refine LeO.ite ?_ ?_
     | refine LeO.bind ?_ (fun _ => ?_)
def laws_lwBegin.T5 : Bool × List (List Nat × List Nat) := (true, [([], []), ([0], [0]), ([], []), ([], []), ([2, 3], [2, 3]), ([4], [4]), ([5], [5]), ([1, 6], [1, 6]), ([7], [7]), ([0, 1, 2, 3, 4, 5, 6, 7, 8], []), ([9, 8, 0, 1, 2, 3, 4, 5, 6, 7, 8], [8, 9])])
def laws_lwBegin.B5 : List Nat := [0, 1, 0, 0, 12, 28, 60, 127, 255, 511, 1023]
theorem laws_lwBegin.tab5 : rtab .any (opsOf Try.f13 5) = laws_lwBegin.T5 := by kernel_rfl
theorem laws_lwBegin.bits5 : waitsOk laws_lwBegin.T5.2 laws_lwBegin.B5 = true := by kernel_rfl
set_option maxHeartbeats 60000000 in
set_option maxRecDepth 100000 in
theorem laws_lwBegin.calls (k : Nat) (A0 : Option Addr) (c0 : Nat) (l0 : List Int) (a1 : Int) (r1 : Int) (r2 : Int) (w : World) (hr0 : Kd.C (Kd.int .u8) w A0 l0.length l0) (hc0 : l0.length ≤ c0) (h : laws_lwBegin.f k l0 a1 = some (r1, r2)) :
 Calls Try.prog 13 #[.slice A0 l0.length c0, .int .u64 a1] w fun e w' => e = .returned (.agg #[.slice A0 l0.length c0, .int .i64 r1, .int .u64 r2]) ∧ Below w.heap.size w w' := by
 have hu36 := Try.underlying36
 have HR0 := Aside0.mk hr0
 have a5 := Aside0.mk hc0
 clear hr0 hc0
 have HB := Aside0.mk (Below.refl w.heap.size w)
 have H : (laws_lwBegin.l0 k l0 0 l0 0 (IntKind.u64.wrap (88172645463325252 + (IntKind.u64.wrap (a1 * 977))))) = some (r1, r2) := h
 clear h
 have H' := Aside0.mk H
 clear H
 go_enter Try.func13, Try.ntmps13
 go_wp2_with (first | ((with_reducible refine gate_dst (N := 4) rfl ?_); refine box_event ?hg (N := 4) ?hd (cs := #[.slice none 0 0, .int .i64 0, .int .u64 0]) (t := 36) ?hr ?_; (case hd => rfl); (case hg => rfl); (case hr => first | (go_simp; done) | (go_simp; rfl)); intro ah hg a2 hbox hb; have ab := Aside0.mk (hbox); have aH := Aside0.mk ((by rw [hg]; exact (below_size wB) : w.heap.size ≤ ah)); replace HB := Aside0.mk (below_step wB hb); have a3 := aH; clear hb hbox hg) | ((with_reducible refine gate_dst (N := 5) rfl ?_); refine box_event ?hg (N := 5) ?hd (cs := #[.slice none 0 0, .int .i64 0, .int .u64 0]) (t := 36) ?hr ?_; (case hd => rfl); (case hg => rfl); (case hr => first | (go_simp; done) | (go_simp; rfl)); intro ae hg aj hbox hb; have aa := Aside0.mk (hbox); have aI := Aside0.mk ((by rw [hg]; exact (below_size wB) : w.heap.size ≤ ae)); replace HB := Aside0.mk (below_step wB hb); have a4 := aI; have ad := Aside0.mk ((by rw [hg]; exact Nat.ne_of_lt (blk_lt (Bh ab)) : ah ≠ ae)); replace ab := Aside0.mk (blk_below (Bh ab) hb); have ag := Aside0.mk ad.out.symm; clear hb hbox hg; have aX := ag.out; have aY := ad.out; obtain ⟨⟨aB, aC, aD⟩, aE, aF, aG⟩ := cells3 aa.out) | ((with_reducible refine gate_store (t := 36) (p := 5) rfl ?_); (try (rw [drewN_self aj]; generalize hq_ : World.drewN aj _ = aj; replace ab := Aside0.mk (blk_at hq_ ab.out); replace aa := Aside0.mk (blk_at hq_ aa.out); replace HB := Aside0.mk (below_at hq_ HB.out); clear hq_; (try (obtain ⟨⟨al, am, an⟩, ao, ap, aq⟩ := cells3 ab.out)); (try (obtain ⟨⟨ar, au, av⟩, aw, ax, ay⟩ := cells3 aa.out)))); refine store_event (t := 36) (p := 5) (v := ?_) (w1 := (((aj.setCell ⟨ae, 0, none⟩ (.slice A0 l0.length c0)).setCell ⟨ae, 1, none⟩ (.int .i64 0)).setCell ⟨ae, 2, none⟩ (.int .u64 (IntKind.u64.wrap (88172645463325252 + (IntKind.u64.wrap (a1 * 977))))))) ?hg ?ho ?hn ?hr ?_; (case ho => rfl); (case hg => rfl); (case hn => rfl); (case hr => first | (go_simp; done) | (go_simp; rfl)); intro az hw; have n0_ : Aside0 (az.heap[ah]? = some (.cells #[.slice none 0 0, .int .i64 0, .int .u64 0] 36 (0, 0))) := ⟨(by rw [hw]; exact (by (with_reducible repeat (first | refine blk_drewN ?_ _ | refine blk_drew ?_ | refine blk_alloc ?_ _)); refine blk_far ?_ ad.out _; (with_reducible repeat (first | refine blk_drewN ?_ _ | refine blk_drew ?_ | refine blk_alloc ?_ _)); refine blk_far ?_ ad.out _; (with_reducible repeat (first | refine blk_drewN ?_ _ | refine blk_drew ?_ | refine blk_alloc ?_ _)); refine blk_far ?_ ad.out _; (with_reducible repeat (first | refine blk_drewN ?_ _ | refine blk_drew ?_ | refine blk_alloc ?_ _)); exact ab.out))⟩; have n1_ : Aside0 (az.heap[ae]? = some (.cells #[.slice A0 l0.length c0, .int .i64 0, .int .u64 (IntKind.u64.wrap (88172645463325252 + (IntKind.u64.wrap (a1 * 977))))] 36 (0, 0))) := ⟨(by rw [hw]; exact (by (with_reducible repeat (first | refine blk_drewN ?_ _ | refine blk_drew ?_ | refine blk_alloc ?_ _)); refine blk_put (cs := #[.slice A0 l0.length c0, .int .i64 0, .int .u64 0]) ?_ 2 _ rfl; (with_reducible repeat (first | refine blk_drewN ?_ _ | refine blk_drew ?_ | refine blk_alloc ?_ _)); refine blk_put (cs := #[.slice A0 l0.length c0, .int .i64 0, .int .u64 0]) ?_ 1 _ rfl; (with_reducible repeat (first | refine blk_drewN ?_ _ | refine blk_drew ?_ | refine blk_alloc ?_ _)); refine blk_put (cs := #[.slice none 0 0, .int .i64 0, .int .u64 0]) ?_ 0 _ rfl; (with_reducible repeat (first | refine blk_drewN ?_ _ | refine blk_drew ?_ | refine blk_alloc ?_ _)); exact aa.out))⟩; have n2_ : Aside0 (Below w.heap.size w az) := ⟨(by rw [hw]; exact wB)⟩; clear hw; clear ab; clear aa; clear HB; have ab := n0_; have aa := n1_; have HB := n2_; clear n0_ n1_ n2_))
 go_loopg [6] k (fun kq v6 w' => ∃ (af : Int) (ac : Int), v6 = .int .i64 af ∧ Aside0 (laws_lwBegin.l0 kq l0 af l0 0 ac = some (r1, r2)) ∧ Aside0 (kq ≤ k) ∧ Aside0 (w'.heap[ah]? = some (.cells #[(.slice none 0 0), .int .i64 0, .int .u64 0] 36 (0, 0))) ∧ Aside0 (w'.heap[ae]? = some (.cells #[(.slice A0 l0.length c0), .int .i64 0, .int .u64 ac] 36 (0, 0))) ∧ Aside0 (Below w.heap.size w w'))
 case atStart => exact ⟨(0), (IntKind.u64.wrap (88172645463325252 + (IntKind.u64.wrap (a1 * 977)))), (by first | rfl | (simp; done) | (simp [*]; done)), H', ⟨Nat.le_refl _⟩, ⟨Bh ab⟩, ⟨Bh aa⟩, ⟨wB⟩⟩
 case round => (
 clear H'
 try clear c0
 try clear aB aC aD aE aF aG
 obtain ⟨af, ac, rfl, HA, aK, ab, aa, HB⟩ := hrel
 cases gk with
 | zero => exact absurd HA.out (by simp [laws_lwBegin.l0])
 | succ k1 => {
 have H := HA.out
 clear HA
 simp only [laws_lwBegin.l0] at H
 by_cases ai : af < (l0.length : Int)
 {
 rw [if_pos ai] at H
 have c1006b0 : decide (af < (l0.length : Int)) = true := decide_eq_true ai
 clear ai
 by_cases ak : 0 ≤ af
 {
 rw [if_pos ak] at H
 have c1007b0 : decide (0 ≤ af) = true := decide_eq_true ak
 clear ak
 have H' := Aside0.mk H
 clear H
 try go_wp2
 have n0_ := Aside0.mk (blk_drew ab.out)
 have n1_ := Aside0.mk (blk_drew aa.out)
 have n2_ := Aside0.mk (below_drew1 HB.out)
 clear ab
 clear aa
 clear HB
 have ab := n0_
 have aa := n1_
 have HB := n2_
 clear n0_ n1_ n2_
 have p127 : 0 ≤ (af : Int) := of_decide_eq_true (by first | (with_reducible assumption) | assumption)
 have q127 : af < (l0.length : Int) := of_decide_eq_true (by first | (with_reducible assumption) | assumption)
 obtain ⟨ad127, e127, hx127_0⟩ := Kd.at_int HR0.out af p127 q127
 have hw127_0 := hx127_0
 cases e127
 replace hx127_0 := (HB.out.cell (World.block_lt_of_cell? w _ hx127_0)).trans hx127_0
 replace p127 := eq_true p127
 replace q127 := eq_true q127
 refine start_ (n := 11) (S := fun w' => w'.cell? ⟨ae, 0, none⟩ = some (.slice (some ad127) l0.length c0) ∧ w'.cell? ⟨ae, 1, none⟩ = some (.int .i64 0) ∧ w'.cell? ⟨ae, 2, none⟩ = some (.int .u64 ac) ∧ w'.cell? (ad127.add (af).toNat) = some (.int .u8 (rd l0 af))) (ds := [10]) #[false, false, false, false, false, false, false, false, false, false, false] (by kernel_rfl) rfl rfl ⟨(blk_cell aa.out 0).trans rfl, (blk_cell aa.out 1).trans rfl, (blk_cell aa.out 2).trans rfl, ((HB.out.cell (World.block_lt_of_cell? w _ hw127_0)).trans hw127_0)⟩ (fun hHeld => ?_); refine with_tabW laws_lwBegin.tab5 laws_lwBegin.bits5 (fun HT_ HW_ => ?_)
 generalize wr.drew = aJ at ab aa HB hx127_0 hHeld ⊢
 refine pure_ (i := 0) (N := some 18) (v := ?_) (a' := ?_) #[true, false, false, false, false, false, false, false, false, false, false] rfl rfl (any_of HT_.out (by kernel_rfl)) (fun _ _ _ h => h) (Or.inl ⟨by rfl, ?_⟩) ?_ ?_
 rotate_left
 {
 intro w'
 go_simp
 with_reducible rfl
 }
 rotate_left
 {
 simp only [Act.put, List.setIfInBounds_toArray, List.set_cons_zero, List.set_cons_succ, i64_w, i32_w]
 rfl
 }
 refine pure_ (i := 2) (N := some 20) (v := ?_) (a' := ?_) #[true, false, true, false, false, false, false, false, false, false, false] rfl rfl (any_of HT_.out (by kernel_rfl)) (fun _ _ _ h => h) (Or.inl ⟨by rfl, ?_⟩) ?_ ?_
 rotate_left
 {
 intro w'
 go_simp
 with_reducible rfl
 }
 rotate_left
 {
 simp only [Act.put, List.setIfInBounds_toArray, List.set_cons_zero, List.set_cons_succ, i64_w, i32_w]
 rfl
 }
 refine pure_ (i := 3) (N := some 21) (v := ?_) (a' := ?_) #[true, false, true, true, false, false, false, false, false, false, false] rfl rfl (any_of HT_.out (by kernel_rfl)) (fun _ _ _ h => h) (Or.inl ⟨by rfl, ?_⟩) ?_ ?_
 rotate_left
 {
 intro w'
 go_simp
 with_reducible rfl
 }
 rotate_left
 {
 simp only [Act.put, List.setIfInBounds_toArray, List.set_cons_zero, List.set_cons_succ, i64_w, i32_w]
 rfl
 }
 refine pure_ (i := 4) (N := some 22) (v := ?_) (a' := ?_) #[true, false, true, true, true, false, false, false, false, false, false] rfl rfl (any_of HT_.out (by kernel_rfl)) (fun _ _ _ h => h) (Or.inl ⟨by rfl, ?_⟩) ?_ ?_
 rotate_left
 {
 intro w'
 go_simp
 with_reducible rfl
 }
 rotate_left
 {
 simp only [Act.put, List.setIfInBounds_toArray, List.set_cons_zero, List.set_cons_succ, i64_w, i32_w]
 rfl
 }
 refine take_ (i := 1) (N := some 19) (v := ?_) (a' := ?_) #[true, true, true, true, true, false, false, false, false, false, false] rfl rfl (take_ofW HT_.out HW_.out (by kernel_rfl)) (fun _ _ _ h => h) (Or.inl ⟨by rfl, ?_⟩) hHeld ?_ ?_
 rotate_left
 {
 rintro w' ⟨s0, s1, s2, s3⟩
 go_simp
 with_reducible rfl
 }
 rotate_left
 {
 simp only [Act.put, List.setIfInBounds_toArray, List.set_cons_zero, List.set_cons_succ, i64_w, i32_w]
 rfl
 }
 refine take_ (i := 5) (N := some 23) (v := ?_) (a' := ?_) #[true, true, true, true, true, true, false, false, false, false, false] rfl rfl (take_ofW HT_.out HW_.out (by kernel_rfl)) (fun _ _ _ h => h) (Or.inl ⟨by rfl, ?_⟩) hHeld ?_ ?_
 rotate_left
 {
 rintro w' ⟨s0, s1, s2, s3⟩
 go_simp
 with_reducible rfl
 }
 rotate_left
 {
 simp only [Act.put, List.setIfInBounds_toArray, List.set_cons_zero, List.set_cons_succ, i64_w, i32_w]
 rfl
 }
 refine pure_ (i := 6) (N := some 24) (v := ?_) (a' := ?_) #[true, true, true, true, true, true, true, false, false, false, false] rfl rfl (any_of HT_.out (by kernel_rfl)) (fun _ _ _ h => h) (Or.inl ⟨by rfl, ?_⟩) ?_ ?_
 rotate_left
 {
 intro w'
 go_simp
 with_reducible rfl
 }
 rotate_left
 {
 simp only [Act.put, List.setIfInBounds_toArray, List.set_cons_zero, List.set_cons_succ, i64_w, i32_w]
 rfl
 }
 refine pure_ (i := 7) (N := some 25) (v := ?_) (a' := ?_) #[true, true, true, true, true, true, true, true, false, false, false] rfl rfl (any_of HT_.out (by kernel_rfl)) (fun _ _ _ h => h) (Or.inl ⟨by rfl, ?_⟩) ?_ ?_
 rotate_left
 {
 intro w'
 go_simp
 with_reducible rfl
 }
 rotate_left
 {
 simp only [Act.put, List.setIfInBounds_toArray, List.set_cons_zero, List.set_cons_succ, i64_w, i32_w]
 rfl
 }
 refine pure_ (i := 8) (N := some 26) (v := ?_) (a' := ?_) #[true, true, true, true, true, true, true, true, true, false, false] rfl rfl (any_of HT_.out (by kernel_rfl)) (fun _ _ _ h => h) (Or.inl ⟨by rfl, ?_⟩) ?_ ?_
 rotate_left
 {
 intro w'
 go_simp
 with_reducible rfl
 }
 rotate_left
 {
 simp only [Act.put, List.setIfInBounds_toArray, List.set_cons_zero, List.set_cons_succ, i64_w, i32_w]
 rfl
 }
 refine pure_ (i := 9) (N := some 27) (v := ?_) (a' := ?_) #[true, true, true, true, true, true, true, true, true, true, false] rfl rfl (any_of HT_.out (by kernel_rfl)) (fun _ _ _ h => h) (Or.inl ⟨by rfl, ?_⟩) ?_ ?_
 rotate_left
 {
 intro w'
 go_simp
 with_reducible rfl
 }
 rotate_left
 {
 simp only [Act.put, List.setIfInBounds_toArray, List.set_cons_zero, List.set_cons_succ, i64_w, i32_w]
 rfl
 }
 refine last_ (i := 10) (N := none) #[true, true, true, true, true, true, true, true, true, true, true] rfl rfl (one_of HT_.out (by kernel_rfl)) (by decide) (fun K hK => ?_)
 have hs2002 : aJ.cell? ⟨ae, 2, none⟩ = some (.int .u64 ac) := (blk_cell aa.out 2).trans rfl
 have hfs2002 := blk_frozen aa.out 2
 have hns2002_0 := ad.out
 have hms2002_0 := ag.out
 refine skip_ (w1 := ?_) (by rfl) rfl ?_ ?_
 rotate_left
 {
 go_simp
 rfl
 }
 refine hK.out _ _ ?_
 clear hK K
 refine done_ (done_of HT_.out (by kernel_rfl)) ?_
 try go_wp2
 go_roundg k1
 case measure => have := aK.out; omega
 case rel => exact ⟨(wrap64 (af + 1)), (IntKind.u64.wrap ((Go.bits .xor .u64 ac (IntKind.u64.wrap (rd l0 af))) * 1099511628211)), (by first | rfl | (simp; done) | (simp [*]; done)), H', ⟨by have := aK.out; omega⟩, ⟨by (with_reducible repeat (first | refine blk_drewN ?_ _ | refine blk_drew ?_ | refine blk_alloc ?_ _)); refine blk_far ?_ ad.out _; (with_reducible repeat (first | refine blk_drewN ?_ _ | refine blk_drew ?_ | refine blk_alloc ?_ _)); exact ab.out⟩, ⟨by (with_reducible repeat (first | refine blk_drewN ?_ _ | refine blk_drew ?_ | refine blk_alloc ?_ _)); refine blk_put (cs := #[.slice (some ad127) l0.length c0, .int .i64 0, .int .u64 ac]) ?_ 2 _ rfl; (with_reducible repeat (first | refine blk_drewN ?_ _ | refine blk_drew ?_ | refine blk_alloc ?_ _)); exact aa.out⟩, ⟨wB⟩⟩
 }
 {
 rw [if_neg ak] at H
 exact absurd H (by simp)
 }
 }
 {
 rw [if_neg ai] at H
 have c1006b0 : decide (af < (l0.length : Int)) = false := decide_eq_false ai
 clear ai
 simp only [Option.some.injEq, Prod.mk.injEq] at H
 obtain ⟨rfl, rfl⟩ := H
 have aZ := ag.out
 have a0 := ad.out
 obtain ⟨⟨aL, aM, aN⟩, aO, aP, aQ⟩ := cells3 aa.out
 obtain ⟨⟨aR, aS, aT⟩, aU, aV, aW⟩ := cells3 ab.out
 go_wp2_with (first | ((with_reducible refine gate_store (t := 36) (p := 4) rfl ?_); (try (rw [drewN_self wr]; generalize hq_ : World.drewN wr _ = wr; replace ab := Aside0.mk (blk_at hq_ ab.out); replace aa := Aside0.mk (blk_at hq_ aa.out); replace HB := Aside0.mk (below_at hq_ HB.out); clear hq_; (try (obtain ⟨⟨al, am, an⟩, ao, ap, aq⟩ := cells3 ab.out)); (try (obtain ⟨⟨ar, au, av⟩, aw, ax, ay⟩ := cells3 aa.out)))); refine store_event (t := 36) (p := 4) (v := ?_) (w1 := (((wr.setCell ⟨ah, 0, none⟩ (.slice A0 l0.length c0)).setCell ⟨ah, 1, none⟩ (.int .i64 0)).setCell ⟨ah, 2, none⟩ (.int .u64 ac))) ?hg ?ho ?hn ?hr ?_; (case ho => rfl); (case hg => rfl); (case hn => rfl); (case hr => first | (go_simp; done) | (go_simp; rfl)); intro aA hw; have n0_ : Aside0 (aA.heap[ah]? = some (.cells #[.slice A0 l0.length c0, .int .i64 0, .int .u64 ac] 36 (0, 0))) := ⟨(by rw [hw]; exact (by (with_reducible repeat (first | refine blk_drewN ?_ _ | refine blk_drew ?_ | refine blk_alloc ?_ _)); refine blk_put (cs := #[.slice A0 l0.length c0, .int .i64 0, .int .u64 0]) ?_ 2 _ rfl; (with_reducible repeat (first | refine blk_drewN ?_ _ | refine blk_drew ?_ | refine blk_alloc ?_ _)); refine blk_put (cs := #[.slice A0 l0.length c0, .int .i64 0, .int .u64 0]) ?_ 1 _ rfl; (with_reducible repeat (first | refine blk_drewN ?_ _ | refine blk_drew ?_ | refine blk_alloc ?_ _)); refine blk_put (cs := #[.slice none 0 0, .int .i64 0, .int .u64 0]) ?_ 0 _ rfl; (with_reducible repeat (first | refine blk_drewN ?_ _ | refine blk_drew ?_ | refine blk_alloc ?_ _)); exact ab.out))⟩; have n1_ : Aside0 (aA.heap[ae]? = some (.cells #[.slice A0 l0.length c0, .int .i64 0, .int .u64 ac] 36 (0, 0))) := ⟨(by rw [hw]; exact (by (with_reducible repeat (first | refine blk_drewN ?_ _ | refine blk_drew ?_ | refine blk_alloc ?_ _)); refine blk_far ?_ ag.out _; (with_reducible repeat (first | refine blk_drewN ?_ _ | refine blk_drew ?_ | refine blk_alloc ?_ _)); refine blk_far ?_ ag.out _; (with_reducible repeat (first | refine blk_drewN ?_ _ | refine blk_drew ?_ | refine blk_alloc ?_ _)); refine blk_far ?_ ag.out _; (with_reducible repeat (first | refine blk_drewN ?_ _ | refine blk_drew ?_ | refine blk_alloc ?_ _)); exact aa.out))⟩; have n2_ : Aside0 (Below w.heap.size w aA) := ⟨(by rw [hw]; exact wB)⟩; clear hw; clear ab; clear aa; clear HB; have ab := n0_; have aa := n1_; have HB := n2_; clear n0_ n1_ n2_))
 refine bodyPost_ret (results_cell_row rfl _ _ ah 36 #[.slice A0 l0.length c0, .int .i64 0, .int .u64 ac] (0, 0) _ rfl (Bh ab) Try.underlying36 rfl (by kernel_rfl)) rfl ?_
 exact ⟨by first | rfl | (simp [errW_none, errW_some] <;> rfl) | (simp [*, errW_none, errW_some] <;> rfl), wB⟩
 }
 }
 )

/-! ### spec_l01In: function 48 -/
def spec_l01In.f (a0 : Int) (a1 : Int) (a2 : Int) : Option (Bool) := if a0 ≥ a1 then (some (decide (a0 ≤ a2))) else (some false)
set_option maxHeartbeats 60000000 in
set_option maxRecDepth 100000 in
theorem spec_l01In.calls (a0 : Int) (a1 : Int) (a2 : Int) (r : Bool) (w : World) (h : spec_l01In.f a0 a1 a2 = some r) :
 Calls Try.prog 48 #[.int .i64 a0, .int .i64 a1, .int .i64 a2] w fun e w' => e = .returned (.bool r) ∧ Drawn0 w w' := by
 have H : (if a0 ≥ a1 then (some (decide (a0 ≤ a2))) else (some false)) = some r := h
 clear h
 by_cases c4 : a0 ≥ a1
 {
 rw [if_pos c4] at H
 have c4b0 : decide (a1 ≤ a0) = true := decide_eq_true c4
 clear c4
 obtain rfl := Option.some.inj H
 go_enter Try.func48, Try.ntmps48
 go_wp2
 go_ret
 exact ⟨by first | rfl | (simp; done) | (simp [*]; done), by repeat (first | exact Drawn0.refl _ | apply Drawn0.step)⟩
 }
 {
 rw [if_neg c4] at H
 have c4b0 : decide (a1 ≤ a0) = false := decide_eq_false c4
 clear c4
 obtain rfl := Option.some.inj H
 go_enter Try.func48, Try.ntmps48
 go_wp2
 go_ret
 exact ⟨by first | rfl | (simp; done) | (simp [*]; done), by repeat (first | exact Drawn0.refl _ | apply Drawn0.step)⟩
 }

/-! ### spec_l02AddrOK: function 23 -/
def spec_l02AddrOK.f (a0 : Int) : Option (Bool) := (spec_l01In.f a0 0 4294967295).bind fun t128 => (some t128)
set_option maxHeartbeats 60000000 in
set_option maxRecDepth 100000 in
theorem spec_l02AddrOK.calls (a0 : Int) (r : Bool) (w : World) (h : spec_l02AddrOK.f a0 = some r) :
 Calls Try.prog 23 #[.int .i64 a0] w fun e w' => e = .returned (.bool r) ∧ Drawn0 w w' := by
 have H : ((spec_l01In.f a0 0 4294967295).bind fun aa => (some aa)) = some r := h
 clear h
 replace H := Option.bind_eq_some_iff.mp H
 obtain ⟨aa, A20, H⟩ := H
 replace H : (some aa) = some r := H
 have A2 := Aside0.mk A20
 clear A20
 obtain rfl := Option.some.inj H
 go_enter Try.func23, Try.ntmps23
 go_wp2_with (first | ((with_reducible refine gate_callee (f := 48) rfl ?_); refine goesL_ (some 4) rfl rfl Try.func48 (by kernel_rfl) rfl #[.int .i64 a0, .int .i64 0, .int .i64 4294967295] rfl wT ?_; (with_reducible refine (spec_l01In.calls a0 0 4294967295 aa _ A2.out).mono ?_); rintro e w' ⟨rfl, ⟨nd, rfl⟩⟩; refine ⟨_, rfl, ?_⟩))
 go_ret
 exact ⟨by first | rfl | (simp; done) | (simp [*]; done), by repeat (first | exact Drawn0.refl _ | apply Drawn0.step)⟩

/-! ### spec_l01Copy: function 26 -/
def spec_l01Copy.l0 : Nat → List Int → List Int → Int → Option (List Int)
  | 0, _, _, _ => none
  | k + 1, x0, x3, x4 => if x4 < (x0.length : Int) then (if 0 ≤ x4 then (if x3.length < 140737488355328 then (spec_l01Copy.l0 k x0 (x3 ++ [rd x0 x4]) (wrap64 (x4 + 1))) else (none)) else (none)) else (some x3)
def spec_l01Copy.f (k : Nat) (l0 : List Int) : Option (List Int) := spec_l01Copy.l0 k l0 (([] : List Int)) 0
theorem spec_l01Copy.mono_l : ∀ k, (∀ y0 y1 y2, LeO (spec_l01Copy.l0 k y0 y1 y2) (spec_l01Copy.l0 (k + 1) y0 y1 y2))
  | 0 => fun _ _ _ r h => by simp [spec_l01Copy.l0] at h
  | k + 1 => by
    have ih0 := spec_l01Copy.mono_l k
    · intro y0 y1 y2
      unfold spec_l01Copy.l0
      repeat' first
      | (with_reducible exact ih0 _ _ _)
      | (with_reducible exact LeO.refl _)
      | (with_reducible exact LeO.none _)
      | (with_reducible refine LeO.ite ?_ ?_)
      | (with_reducible refine LeO.bind ?_ (fun _ => ?_))
      | exact ih0 _ _ _
      | exact LeO.none _
      | refine LeO.ite ?_ ?_
      | refine LeO.bind ?_ (fun _ => ?_)
theorem spec_l01Copy.mono : ∀ a0 k, LeO (spec_l01Copy.f k a0) (spec_l01Copy.f (k + 1) a0) := by
 intro a0 k
 have ih0 := spec_l01Copy.mono_l k
 unfold spec_l01Copy.f
 repeat' first
     | (with_reducible exact ih0 _ _ _)
     | (with_reducible exact LeO.refl _)
     | (with_reducible exact LeO.none _)
     | (with_reducible refine LeO.ite ?_ ?_)
     | (with_reducible refine LeO.bind ?_ (fun _ => ?_))
     | exact ih0 _ _ _
     | exact LeO.none _
     | refine LeO.ite ?_ ?_
     | refine LeO.bind ?_ (fun _ => ?_)
set_option maxHeartbeats 60000000 in
set_option maxRecDepth 100000 in
theorem spec_l01Copy.calls (k : Nat) (A0 : Option Addr) (c0 : Nat) (l0 : List Int) (r : List Int) (w : World) (hr0 : Kd.C (Kd.int .u8) w A0 l0.length l0) (hc0 : l0.length ≤ c0) (h : spec_l01Copy.f k l0 = some r) :
 Calls Try.prog 26 #[.slice A0 l0.length c0] w fun e w' => ∃ v0_ : Value, e = .returned (v0_) ∧ Kd.R (Kd.int .u8) 5 w' w.heap.size (fun _ => True) v0_ r ∧ Below w.heap.size w w' := by
 have HR0 := Aside0.mk hr0
 have ar := Aside0.mk hc0
 clear hr0 hc0
 have HB := Aside0.mk (Below.refl w.heap.size w)
 have H : (spec_l01Copy.l0 k l0 (([] : List Int)) 0) = some r := h
 clear h
 obtain ⟨ai, ad⟩ : ∃ y_ : List Int, y_ = (([] : List Int)) := ⟨_, rfl⟩
 replace H : (spec_l01Copy.l0 k l0 ai 0) = some r := by first | (rw [ad]; with_reducible exact H) | (have H2_ := (Option.bind_some _ _).symm.trans H; rw [ad]; with_reducible exact H2_) | (have H2_ := (Option.bind_some _ _).symm.trans H; with_reducible exact H2_) | with_reducible exact H | (rw [ad]; exact H) | exact H
 have Ny129 := Aside0.mk ad
 clear ad
 have H' := Aside0.mk H
 clear H
 go_enter Try.func26, Try.ntmps26
 go_wp2_with (first | ((with_reducible refine gate_dst (N := 5) rfl ?_); refine Kd.R_lit (Kd.int .u8) _ 5 ?hg (N := 5) ?hd (xs := ([] : List Int)) (inner := []) (ok := fun _ => True) (okp := fun _ => True) ?hr ?hp (fun _ hk => hk) trivial (Below.refl _ _) (Nat.le_refl _) (by simp) ?_; (case hd => rfl); (case hg => rfl); (case hr => first | (go_simp; done) | (go_simp; rfl)); (case hp => exact (Reps.none _ _)); intro ap an ab hb hg_ hnew_; clear hg_ hnew_; (first | rw [← Ny129.out] at ab | (simp only [Int.reduceToNat] at ab; rw [← Ny129.out] at ab)); have ak := Aside0.mk (Kd.R_lower ab (below_size wB)); replace HB := Aside0.mk (below_step wB hb); clear hb ab))
 go_loopg [3, 4] k (fun kq v3 v4 w' => ∃ (af : List Int) (aa : Int), v4 = .int .i64 aa ∧ Aside0 (spec_l01Copy.l0 kq l0 af aa = some r) ∧ Aside0 (kq ≤ k) ∧ Aside0 (Kd.R (Kd.int .u8) 5 w' w.heap.size (fun _ => True) v3 af) ∧ Aside0 (Below w.heap.size w w'))
 case atStart => exact ⟨(ai), (0), (by first | rfl | (simp; done) | (simp [*]; done)), H', ⟨Nat.le_refl _⟩, ⟨Rh ak⟩, ⟨wB⟩⟩
 case round => (
 clear H'
 obtain ⟨af, aa, rfl, HA, am, HO_3, HB⟩ := hrel
 cases gk with
 | zero => exact absurd HA.out (by simp [spec_l01Copy.l0])
 | succ k1 => {
 have H := HA.out
 clear HA
 simp only [spec_l01Copy.l0] at H
 by_cases ac : aa < (l0.length : Int)
 {
 rw [if_pos ac] at H
 have c1003b0 : decide (aa < (l0.length : Int)) = true := decide_eq_true ac
 clear ac
 by_cases ag : 0 ≤ aa
 {
 rw [if_pos ag] at H
 have c1004b0 : decide (0 ≤ aa) = true := decide_eq_true ag
 clear ag
 by_cases ah : af.length < 140737488355328
 {
 rw [if_pos ah] at H
 have LMc1005 := Aside0.mk ah
 clear ah
 obtain ⟨aj, ae⟩ : ∃ y_ : List Int, y_ = (af ++ [rd l0 aa]) := ⟨_, rfl⟩
 replace H : (spec_l01Copy.l0 k1 l0 aj (wrap64 (aa + 1))) = some r := by first | (rw [ae]; with_reducible exact H) | (have H2_ := (Option.bind_some _ _).symm.trans H; rw [ae]; with_reducible exact H2_) | (have H2_ := (Option.bind_some _ _).symm.trans H; with_reducible exact H2_) | with_reducible exact H | (rw [ae]; exact H) | exact H
 have Ny133 := Aside0.mk ae
 clear ae
 have H' := Aside0.mk H
 clear H
 have p132 : 0 ≤ (aa : Int) := of_decide_eq_true (by first | (with_reducible assumption) | assumption)
 have q132 : aa < (l0.length : Int) := of_decide_eq_true (by first | (with_reducible assumption) | assumption)
 obtain ⟨ad132, e132, hx132_0⟩ := Kd.at_int HR0.out aa p132 q132
 cases e132
 replace hx132_0 := (HB.out.cell (World.block_lt_of_cell? w _ hx132_0)).trans hx132_0
 replace p132 := eq_true p132
 replace q132 := eq_true q132
 go_wp2_with (first | ((with_reducible refine gate_builtin (b := .append) (xs := #[.tmp 12, .tmp 17]) rfl ?_); at_builtin; refine Kd.R_append (Kd.int .u8) (w0 := w) w.heap.size rfl (.tmp 12) (.tmp 17) 22 5 (.int .u8 0) 1 rfl Try.underlying22 info5 rfl (by decide) (by omega) u3 af (rd l0 aa) [.int .u8 (rd l0 aa)] (fun _ => True) (fun _ => False) rfl rfl ?aP (fun _ hk => hk.elim) ?aF ?aO ?aB ?aS ?aL ?_; (case aP => exact rfl); (case aB => exact wB); (case aF => exact (fun _ _ => trivial)); (case aO => exact (Rh HO_3)); (case aS => exact (below_size wB)); (case aL => have := LMc1005.out; omega); intro aq ao ho hb hg hat; rw [← Ny133.out] at ho; replace HB := Aside0.mk (hb); have al := Aside0.mk (ho); clear HO_3; clear ho hb hg hat))
 go_roundg k1
 case measure => have := am.out; omega
 case rel => exact ⟨(aj), (wrap64 (aa + 1)), (by first | rfl | (simp; done) | (simp [*]; done)), H', ⟨by have := am.out; omega⟩, ⟨Rh al⟩, ⟨wB⟩⟩
 }
 {
 rw [if_neg ah] at H
 exact absurd H (by simp)
 }
 }
 {
 rw [if_neg ag] at H
 exact absurd H (by simp)
 }
 }
 {
 rw [if_neg ac] at H
 have c1003b0 : decide (aa < (l0.length : Int)) = false := decide_eq_false ac
 clear ac
 obtain rfl := Option.some.inj H
 go_wp2
 go_ret
 exact ⟨_, by first | rfl | (simp [errW_none, errW_some] <;> rfl) | (simp [*, errW_none, errW_some] <;> rfl), by (with_reducible repeat (first | apply Kd.R_alloc | apply Kd.R_drewN | apply Kd.R_drew)); exact HO_3.out, wB⟩
 }
 }
 )

/-! ### spec_l01Join: function 42 -/
def spec_l01Join.l0 : Nat → List Int → List Int → Int → Option (List Int)
  | 0, _, _, _ => none
  | k + 1, x1, x5, x6 => if x6 < (x1.length : Int) then (if 0 ≤ x6 then (if x5.length < 140737488355328 then (spec_l01Join.l0 k x1 (x5 ++ [rd x1 x6]) (wrap64 (x6 + 1))) else (none)) else (none)) else (some x5)
def spec_l01Join.f (k : Nat) (l0 : List Int) (l1 : List Int) : Option (List Int) := (spec_l01Copy.f k l0).bind fun t136 => (spec_l01Join.l0 k l1 t136 0)
theorem spec_l01Join.mono_l : ∀ k, (∀ y0 y1 y2, LeO (spec_l01Join.l0 k y0 y1 y2) (spec_l01Join.l0 (k + 1) y0 y1 y2))
  | 0 => fun _ _ _ r h => by simp [spec_l01Join.l0] at h
  | k + 1 => by
    have ih0 := spec_l01Join.mono_l k
    · intro y0 y1 y2
      unfold spec_l01Join.l0
      repeat' first
      | (with_reducible exact ih0 _ _ _)
      | (with_reducible exact spec_l01Copy.mono _ _)
      | (with_reducible exact LeO.refl _)
      | (with_reducible exact LeO.none _)
      | (with_reducible refine LeO.ite ?_ ?_)
      | (with_reducible refine LeO.bind ?_ (fun _ => ?_))
      | exact ih0 _ _ _
      | exact spec_l01Copy.mono _ _
      | exact LeO.none _
      | refine LeO.ite ?_ ?_
      | refine LeO.bind ?_ (fun _ => ?_)
theorem spec_l01Join.mono : ∀ a0 a1 k, LeO (spec_l01Join.f k a0 a1) (spec_l01Join.f (k + 1) a0 a1) := by
 intro a0 a1 k
 have ih0 := spec_l01Join.mono_l k
 unfold spec_l01Join.f
 repeat' first
     | (with_reducible exact ih0 _ _ _)
     | (with_reducible exact spec_l01Copy.mono _ _)
     | (with_reducible exact LeO.refl _)
     | (with_reducible exact LeO.none _)
     | (with_reducible refine LeO.ite ?_ ?_)
     | (with_reducible refine LeO.bind ?_ (fun _ => ?_))
     | exact ih0 _ _ _
     | exact spec_l01Copy.mono _ _
     | exact LeO.none _
     | refine LeO.ite ?_ ?_
     | refine LeO.bind ?_ (fun _ => ?_)
set_option maxHeartbeats 60000000 in
set_option maxRecDepth 100000 in
theorem spec_l01Join.calls (k : Nat) (A0 : Option Addr) (c0 : Nat) (l0 : List Int) (A1 : Option Addr) (c1 : Nat) (l1 : List Int) (r : List Int) (w : World) (hr0 : Kd.C (Kd.int .u8) w A0 l0.length l0) (hc0 : l0.length ≤ c0) (hr1 : Kd.C (Kd.int .u8) w A1 l1.length l1) (hc1 : l1.length ≤ c1) (h : spec_l01Join.f k l0 l1 = some r) :
 Calls Try.prog 42 #[.slice A0 l0.length c0, .slice A1 l1.length c1] w fun e w' => ∃ v0_ : Value, e = .returned (v0_) ∧ Kd.R (Kd.int .u8) 5 w' w.heap.size (fun _ => True) v0_ r ∧ Below w.heap.size w w' := by
 have HR0 := Aside0.mk hr0
 have am := Aside0.mk hc0
 clear hr0 hc0
 have HR1 := Aside0.mk hr1
 have ar := Aside0.mk hc1
 clear hr1 hc1
 have HB := Aside0.mk (Below.refl w.heap.size w)
 have H : ((spec_l01Copy.f k l0).bind fun ag => (spec_l01Join.l0 k l1 ag 0)) = some r := h
 clear h
 replace H := Option.bind_eq_some_iff.mp H
 obtain ⟨ag, A30, H⟩ := H
 replace H : (spec_l01Join.l0 k l1 ag 0) = some r := H
 have A3 := Aside0.mk A30
 clear A30
 have H' := Aside0.mk H
 clear H
 go_enter Try.func42, Try.ntmps42
 go_wp2_with (first | ((with_reducible refine gate_callee (f := 26) rfl ?_); refine goesL_ (some 8) rfl rfl Try.func26 (by kernel_rfl) rfl #[.slice A0 l0.length c0] rfl wT ?_; (with_reducible refine (spec_l01Copy.calls k _ _ l0 ag _ ?side1 ?side2 A3.out).mono ?_); (case side1 => repeat (first | exact HR0.out | (with_reducible refine Kd.C_alloc ?_ _) | (with_reducible refine Kd.C_drewN ?_ _) | (with_reducible refine Kd.C_drew ?_))); (case side2 => exact am.out); rintro e an ⟨ap, rfl, ak, hb⟩; refine ⟨_, rfl, ?_⟩; have ai := Aside0.mk (Kd.R_lower ak (below_size wB)); replace HB := Aside0.mk (below_step wB hb); (try clear hb); (try clear hb2); (try clear hk); (try clear hi); (try clear ak)))
 go_loopg [5, 6] k (fun kq v5 v6 w' => ∃ (ad : List Int) (aa : Int), v6 = .int .i64 aa ∧ Aside0 (spec_l01Join.l0 kq l1 ad aa = some r) ∧ Aside0 (kq ≤ k) ∧ Aside0 (Kd.R (Kd.int .u8) 5 w' w.heap.size (fun _ => True) v5 ad) ∧ Aside0 (Below w.heap.size w w'))
 case atStart => exact ⟨(ag), (0), (by first | rfl | (simp; done) | (simp [*]; done)), H', ⟨Nat.le_refl _⟩, ⟨Rh ai⟩, ⟨wB⟩⟩
 case round => (
 clear H'
 try clear c0
 obtain ⟨ad, aa, rfl, HA, al, HO_5, HB⟩ := hrel
 cases gk with
 | zero => exact absurd HA.out (by simp [spec_l01Join.l0])
 | succ k1 => {
 have H := HA.out
 clear HA
 simp only [spec_l01Join.l0] at H
 by_cases ab : aa < (l1.length : Int)
 {
 rw [if_pos ab] at H
 have c1002b0 : decide (aa < (l1.length : Int)) = true := decide_eq_true ab
 clear ab
 by_cases ae : 0 ≤ aa
 {
 rw [if_pos ae] at H
 have c1003b0 : decide (0 ≤ aa) = true := decide_eq_true ae
 clear ae
 by_cases af : ad.length < 140737488355328
 {
 rw [if_pos af] at H
 have LMc1004 := Aside0.mk af
 clear af
 obtain ⟨ah, ac⟩ : ∃ y_ : List Int, y_ = (ad ++ [rd l1 aa]) := ⟨_, rfl⟩
 replace H : (spec_l01Join.l0 k1 l1 ah (wrap64 (aa + 1))) = some r := by first | (rw [ac]; with_reducible exact H) | (have H2_ := (Option.bind_some _ _).symm.trans H; rw [ac]; with_reducible exact H2_) | (have H2_ := (Option.bind_some _ _).symm.trans H; with_reducible exact H2_) | with_reducible exact H | (rw [ac]; exact H) | exact H
 have Ny140 := Aside0.mk ac
 clear ac
 have H' := Aside0.mk H
 clear H
 have p139 : 0 ≤ (aa : Int) := of_decide_eq_true (by first | (with_reducible assumption) | assumption)
 have q139 : aa < (l1.length : Int) := of_decide_eq_true (by first | (with_reducible assumption) | assumption)
 obtain ⟨ad139, e139, hx139_0⟩ := Kd.at_int HR1.out aa p139 q139
 cases e139
 replace hx139_0 := (HB.out.cell (World.block_lt_of_cell? w _ hx139_0)).trans hx139_0
 replace p139 := eq_true p139
 replace q139 := eq_true q139
 go_wp2_with (first | ((with_reducible refine gate_builtin (b := .append) (xs := #[.tmp 15, .tmp 20]) rfl ?_); at_builtin; refine Kd.R_append (Kd.int .u8) (w0 := w) w.heap.size rfl (.tmp 15) (.tmp 20) 22 5 (.int .u8 0) 1 rfl Try.underlying22 info5 rfl (by decide) (by omega) u5 ad (rd l1 aa) [.int .u8 (rd l1 aa)] (fun _ => True) (fun _ => False) rfl rfl ?aP (fun _ hk => hk.elim) ?aF ?aO ?aB ?aS ?aL ?_; (case aP => exact rfl); (case aB => exact wB); (case aF => exact (fun _ _ => trivial)); (case aO => exact (Rh HO_5)); (case aS => exact (below_size wB)); (case aL => have := LMc1004.out; omega); intro aq ao ho hb hg hat; rw [← Ny140.out] at ho; replace HB := Aside0.mk (hb); have aj := Aside0.mk (ho); clear HO_5; clear ho hb hg hat))
 go_roundg k1
 case measure => have := al.out; omega
 case rel => exact ⟨(ah), (wrap64 (aa + 1)), (by first | rfl | (simp; done) | (simp [*]; done)), H', ⟨by have := al.out; omega⟩, ⟨Rh aj⟩, ⟨wB⟩⟩
 }
 {
 rw [if_neg af] at H
 exact absurd H (by simp)
 }
 }
 {
 rw [if_neg ae] at H
 exact absurd H (by simp)
 }
 }
 {
 rw [if_neg ab] at H
 have c1002b0 : decide (aa < (l1.length : Int)) = false := decide_eq_false ab
 clear ab
 obtain rfl := Option.some.inj H
 go_wp2
 go_ret
 exact ⟨_, by first | rfl | (simp [errW_none, errW_some] <;> rfl) | (simp [*, errW_none, errW_some] <;> rfl), by (with_reducible repeat (first | apply Kd.R_alloc | apply Kd.R_drewN | apply Kd.R_drew)); exact HO_5.out, wB⟩
 }
 }
 )

/-! ### spec_l01Sum: function 58 -/
def spec_l01Sum.l0 : Nat → List Int → Int → Int → Option (Int)
  | 0, _, _, _ => none
  | k + 1, x0, x3, x4 => if x4 < (x0.length : Int) then (if 0 ≤ x4 then (if (wrap64 (x4 + 1)) < (x0.length : Int) then (if 0 ≤ (wrap64 (x4 + 1)) then (if (wrap64 (x3 + (wrap64 ((wrap64 ((wrap64 (rd x0 x4)) * 256)) + (wrap64 (rd x0 (wrap64 (x4 + 1)))))))) > 65535 then (spec_l01Sum.l0 k x0 (wrap64 ((wrap64 (x3 + (wrap64 ((wrap64 ((wrap64 (rd x0 x4)) * 256)) + (wrap64 (rd x0 (wrap64 (x4 + 1)))))))) - 65535)) (wrap64 (x4 + 2))) else (spec_l01Sum.l0 k x0 (wrap64 (x3 + (wrap64 ((wrap64 ((wrap64 (rd x0 x4)) * 256)) + (wrap64 (rd x0 (wrap64 (x4 + 1)))))))) (wrap64 (x4 + 2)))) else (none)) else (if (wrap64 (x3 + (wrap64 ((wrap64 (rd x0 x4)) * 256)))) > 65535 then (spec_l01Sum.l0 k x0 (wrap64 ((wrap64 (x3 + (wrap64 ((wrap64 (rd x0 x4)) * 256)))) - 65535)) (wrap64 (x4 + 2))) else (spec_l01Sum.l0 k x0 (wrap64 (x3 + (wrap64 ((wrap64 (rd x0 x4)) * 256)))) (wrap64 (x4 + 2))))) else (none)) else (some x3)
def spec_l01Sum.f (k : Nat) (l0 : List Int) : Option (Int) := spec_l01Sum.l0 k l0 0 0
theorem spec_l01Sum.mono_l : ∀ k, (∀ y0 y1 y2, LeO (spec_l01Sum.l0 k y0 y1 y2) (spec_l01Sum.l0 (k + 1) y0 y1 y2))
  | 0 => fun _ _ _ r h => by simp [spec_l01Sum.l0] at h
  | k + 1 => by
    have ih0 := spec_l01Sum.mono_l k
    · intro y0 y1 y2
      unfold spec_l01Sum.l0
      repeat' first
      | (with_reducible exact ih0 _ _ _)
      | (with_reducible exact LeO.refl _)
      | (with_reducible exact LeO.none _)
      | (with_reducible refine LeO.ite ?_ ?_)
      | (with_reducible refine LeO.bind ?_ (fun _ => ?_))
      | exact ih0 _ _ _
      | exact LeO.none _
      | refine LeO.ite ?_ ?_
      | refine LeO.bind ?_ (fun _ => ?_)
theorem spec_l01Sum.mono : ∀ a0 k, LeO (spec_l01Sum.f k a0) (spec_l01Sum.f (k + 1) a0) := by
 intro a0 k
 have ih0 := spec_l01Sum.mono_l k
 unfold spec_l01Sum.f
 repeat' first
     | (with_reducible exact ih0 _ _ _)
     | (with_reducible exact LeO.refl _)
     | (with_reducible exact LeO.none _)
     | (with_reducible refine LeO.ite ?_ ?_)
     | (with_reducible refine LeO.bind ?_ (fun _ => ?_))
     | exact ih0 _ _ _
     | exact LeO.none _
     | refine LeO.ite ?_ ?_
     | refine LeO.bind ?_ (fun _ => ?_)
set_option maxHeartbeats 60000000 in
set_option maxRecDepth 100000 in
theorem spec_l01Sum.calls (k : Nat) (A0 : Option Addr) (c0 : Nat) (l0 : List Int) (r : Int) (w : World) (hr0 : Kd.C (Kd.int .u8) w A0 l0.length l0) (hc0 : l0.length ≤ c0) (h : spec_l01Sum.f k l0 = some r) :
 Calls Try.prog 58 #[.slice A0 l0.length c0] w fun e w' => e = .returned (.int .i64 r) ∧ Drawn0 w w' := by
 have HR0 := Aside0.mk hr0
 have ak := Aside0.mk hc0
 clear hr0 hc0
 have H : (spec_l01Sum.l0 k l0 0 0) = some r := h
 clear h
 have H' := Aside0.mk H
 clear H
 go_enter Try.func58, Try.ntmps58
 go_wp2
 go_loopg [3, 4] k (fun kq v3 v4 w' => ∃ (ac : Int) (aa : Int), v3 = .int .i64 ac ∧ v4 = .int .i64 aa ∧ Aside0 (spec_l01Sum.l0 kq l0 ac aa = some r) ∧ Aside0 (kq ≤ k) ∧ Drawn0 w w')
 case atStart => exact ⟨(0), (0), (by first | rfl | (simp; done) | (simp [*]; done)), (by first | rfl | (simp; done) | (simp [*]; done)), H', ⟨Nat.le_refl _⟩, by repeat (first | exact Drawn0.refl _ | apply Drawn0.step)⟩
 case round => (
 clear H'
 obtain ⟨ac, aa, rfl, rfl, HA, aj, ⟨m1, rfl⟩⟩ := hrel
 cases gk with
 | zero => exact absurd HA.out (by simp [spec_l01Sum.l0])
 | succ k1 => {
 have H := HA.out
 clear HA
 simp only [spec_l01Sum.l0] at H
 by_cases ad : aa < (l0.length : Int)
 rw [if_pos ad] at H
 have c1001b0 : decide (aa < (l0.length : Int)) = true := decide_eq_true ad
 clear ad
 by_cases ah : 0 ≤ aa
 rw [if_pos ah] at H
 have c1002b0 : decide (0 ≤ aa) = true := decide_eq_true ah
 clear ah
 by_cases ae : (wrap64 (aa + 1)) < (l0.length : Int)
 rw [if_pos ae] at H
 have c1003b0 : decide ((wrap64 (aa + 1)) < (l0.length : Int)) = true := decide_eq_true ae
 clear ae
 obtain ⟨ab, hji1004⟩ : ∃ j_ : Int, (wrap64 (aa + 1)) = j_ := ⟨_, rfl⟩
 replace H : (if 0 ≤ (ab) then (if (wrap64 (ac + (wrap64 ((wrap64 ((wrap64 (rd l0 aa)) * 256)) + (wrap64 (rd l0 (ab))))))) > 65535 then (spec_l01Sum.l0 k1 l0 (wrap64 ((wrap64 (ac + (wrap64 ((wrap64 ((wrap64 (rd l0 aa)) * 256)) + (wrap64 (rd l0 (ab))))))) - 65535)) (wrap64 (aa + 2))) else (spec_l01Sum.l0 k1 l0 (wrap64 (ac + (wrap64 ((wrap64 ((wrap64 (rd l0 aa)) * 256)) + (wrap64 (rd l0 (ab))))))) (wrap64 (aa + 2)))) else (none)) = some r := by first | (rw [hji1004] at H; exact H) | (simp only [hji1004] at H ⊢; exact H)
 (try rw [hji1004] at c1003b0)
 have hji1004w : (IntKind.i64.wrap (aa + 1)) = ab := (i64_w _).trans hji1004
 by_cases ai : 0 ≤ (ab)
 rw [if_pos ai] at H
 have c1005b0 : decide (0 ≤ (ab)) = true := decide_eq_true ai
 clear ai
 by_cases af : (wrap64 (ac + (wrap64 ((wrap64 ((wrap64 (rd l0 aa)) * 256)) + (wrap64 (rd l0 (ab))))))) > 65535
 rw [if_pos af] at H
 have c1006b0 : decide (65535 < (wrap64 (ac + (wrap64 ((wrap64 ((wrap64 (rd l0 aa)) * 256)) + (wrap64 (rd l0 (ab)))))))) = true := decide_eq_true af
 clear af
 have H' := Aside0.mk H
 clear H
 rotate_left
 rw [if_neg af] at H
 have c1006b0 : decide (65535 < (wrap64 (ac + (wrap64 ((wrap64 ((wrap64 (rd l0 aa)) * 256)) + (wrap64 (rd l0 (ab)))))))) = false := decide_eq_false af
 clear af
 have H' := Aside0.mk H
 clear H
 rotate_left
 rw [if_neg ai] at H
 exact absurd H (by simp)
 rw [if_neg ae] at H
 have c1003b0 : decide ((wrap64 (aa + 1)) < (l0.length : Int)) = false := decide_eq_false ae
 clear ae
 by_cases ag : (wrap64 (ac + (wrap64 ((wrap64 (rd l0 aa)) * 256)))) > 65535
 rw [if_pos ag] at H
 have c1007b0 : decide (65535 < (wrap64 (ac + (wrap64 ((wrap64 (rd l0 aa)) * 256))))) = true := decide_eq_true ag
 clear ag
 have H' := Aside0.mk H
 clear H
 rotate_left
 rw [if_neg ag] at H
 have c1007b0 : decide (65535 < (wrap64 (ac + (wrap64 ((wrap64 (rd l0 aa)) * 256))))) = false := decide_eq_false ag
 clear ag
 have H' := Aside0.mk H
 clear H
 rotate_left
 rw [if_neg ah] at H
 exact absurd H (by simp)
 rw [if_neg ad] at H
 have c1001b0 : decide (aa < (l0.length : Int)) = false := decide_eq_false ad
 clear ad
 obtain rfl := Option.some.inj H
 rotate_left
 iterate 4 (
 focus (
 have p143 : 0 ≤ (aa : Int) := of_decide_eq_true (by first | (with_reducible assumption) | assumption)
 have q143 : aa < (l0.length : Int) := of_decide_eq_true (by first | (with_reducible assumption) | assumption)
 obtain ⟨ad143, e143, hx143_0⟩ := Kd.at_int HR0.out aa p143 q143
 cases e143
 replace p143 := eq_true p143
 replace q143 := eq_true q143
 )
 rotate_left
 )
 rotate_right 4
 iterate 2 (
 focus (
 have p144 : 0 ≤ ((ab) : Int) := of_decide_eq_true (by first | (with_reducible assumption) | assumption)
 have q144 : (ab) < (l0.length : Int) := of_decide_eq_true (by first | (with_reducible assumption) | assumption)
 obtain ⟨ad144, e144, hx144_0⟩ := Kd.at_int HR0.out (ab) p144 q144
 obtain rfl : ad143 = ad144 := (by injection e144)
 replace p144 := eq_true p144
 replace q144 := eq_true q144
 go_wp2
 go_roundg k1
 case measure => have := aj.out; omega
 )
 rotate_left
 )
 rotate_right 2
 {
 case rel => exact ⟨(wrap64 ((wrap64 (ac + (wrap64 ((wrap64 ((wrap64 (rd l0 aa)) * 256)) + (wrap64 (rd l0 (ab))))))) - 65535)), (wrap64 (aa + 2)), (by first | rfl | (simp; done) | (simp only [← hji1004] <;> (first | rfl | (simp; done) | (simp [i64_w]; done) | simp)) | (simp [*]; done)), (by first | rfl | (simp; done) | (simp [*]; done)), H', ⟨by have := aj.out; omega⟩, by repeat (first | exact Drawn0.refl _ | apply Drawn0.step)⟩
 }
 {
 case rel => exact ⟨(wrap64 (ac + (wrap64 ((wrap64 ((wrap64 (rd l0 aa)) * 256)) + (wrap64 (rd l0 (ab))))))), (wrap64 (aa + 2)), (by first | rfl | (simp; done) | (simp only [← hji1004] <;> (first | rfl | (simp; done) | (simp [i64_w]; done) | simp)) | (simp [*]; done)), (by first | rfl | (simp; done) | (simp [*]; done)), H', ⟨by have := aj.out; omega⟩, by repeat (first | exact Drawn0.refl _ | apply Drawn0.step)⟩
 }
 iterate 2 (
 focus (
 go_wp2
 go_roundg k1
 case measure => have := aj.out; omega
 )
 rotate_left
 )
 rotate_right 2
 {
 case rel => exact ⟨(wrap64 ((wrap64 (ac + (wrap64 ((wrap64 (rd l0 aa)) * 256)))) - 65535)), (wrap64 (aa + 2)), (by first | rfl | (simp; done) | (simp [*]; done)), (by first | rfl | (simp; done) | (simp [*]; done)), H', ⟨by have := aj.out; omega⟩, by repeat (first | exact Drawn0.refl _ | apply Drawn0.step)⟩
 }
 {
 case rel => exact ⟨(wrap64 (ac + (wrap64 ((wrap64 (rd l0 aa)) * 256)))), (wrap64 (aa + 2)), (by first | rfl | (simp; done) | (simp [*]; done)), (by first | rfl | (simp; done) | (simp [*]; done)), H', ⟨by have := aj.out; omega⟩, by repeat (first | exact Drawn0.refl _ | apply Drawn0.step)⟩
 }
 {
 go_wp2
 go_ret
 exact ⟨by first | rfl | (simp; done) | (simp [*]; done), by repeat (first | exact Drawn0.refl _ | apply Drawn0.step)⟩
 }
 }
 )

/-! ### spec_Checksum: function 49 -/
def spec_Checksum.f (k : Nat) (l0 : List Int) : Option (Int) := (spec_l01Sum.f k l0).bind fun t145 => (some (wrap64 (65535 - t145)))
theorem spec_Checksum.mono : ∀ a0 k, LeO (spec_Checksum.f k a0) (spec_Checksum.f (k + 1) a0) := by
 intro a0 k
 unfold spec_Checksum.f
 repeat' first
     | (with_reducible exact spec_l01Sum.mono _ _)
     | (with_reducible exact LeO.refl _)
     | (with_reducible exact LeO.none _)
     | (with_reducible refine LeO.ite ?_ ?_)
     | (with_reducible refine LeO.bind ?_ (fun _ => ?_))
     | exact spec_l01Sum.mono _ _
     | exact LeO.none _
     | refine LeO.ite ?_ ?_
     | refine LeO.bind ?_ (fun _ => ?_)
set_option maxHeartbeats 60000000 in
set_option maxRecDepth 100000 in
theorem spec_Checksum.calls (k : Nat) (A0 : Option Addr) (c0 : Nat) (l0 : List Int) (r : Int) (w : World) (hr0 : Kd.C (Kd.int .u8) w A0 l0.length l0) (hc0 : l0.length ≤ c0) (h : spec_Checksum.f k l0 = some r) :
 Calls Try.prog 49 #[.slice A0 l0.length c0] w fun e w' => e = .returned (.int .i64 r) ∧ Drawn0 w w' := by
 have HR0 := Aside0.mk hr0
 have ab := Aside0.mk hc0
 clear hr0 hc0
 have H : ((spec_l01Sum.f k l0).bind fun aa => (some (wrap64 (65535 - aa)))) = some r := h
 clear h
 replace H := Option.bind_eq_some_iff.mp H
 obtain ⟨aa, A20, H⟩ := H
 replace H : (some (wrap64 (65535 - aa))) = some r := H
 have A2 := Aside0.mk A20
 clear A20
 obtain rfl := Option.some.inj H
 go_enter Try.func49, Try.ntmps49
 go_wp2_with (first | ((with_reducible refine gate_callee (f := 58) rfl ?_); refine goesL_ (some 4) rfl rfl Try.func58 (by kernel_rfl) rfl #[.slice A0 l0.length c0] rfl wT ?_; (with_reducible refine (spec_l01Sum.calls k _ _ l0 aa _ ?side1 ?side2 A2.out).mono ?_); (case side1 => repeat (first | exact HR0.out | (with_reducible refine Kd.C_alloc ?_ _) | (with_reducible refine Kd.C_drewN ?_ _) | (with_reducible refine Kd.C_drew ?_))); (case side2 => exact ab.out); rintro e w' ⟨rfl, ⟨nd, rfl⟩⟩; refine ⟨_, rfl, ?_⟩))
 go_ret
 exact ⟨by first | rfl | (simp; done) | (simp [*]; done), by repeat (first | exact Drawn0.refl _ | apply Drawn0.step)⟩

/-! ### spec_l03Put: function 43 -/
def spec_l03Put.l0 : Nat → Int → List Int → Int → Option (List Int)
  | 0, _, _, _ => none
  | k + 1, x0, x5, x6 => if x6 ≥ 0 then (if 0 ≤ (IntKind.u64.wrap (wrap64 (8 * x6))) then (if x5.length < 140737488355328 then (spec_l03Put.l0 k x0 (x5 ++ [(shr .i64 x0 (IntKind.u64.wrap (wrap64 (8 * x6)))) % 256]) (wrap64 (x6 - 1))) else (none)) else (none)) else (some x5)
def spec_l03Put.f (k : Nat) (a0 : Int) (a1 : Int) : Option (List Int) := spec_l03Put.l0 k a0 (([] : List Int)) (wrap64 (a1 - 1))
theorem spec_l03Put.mono_l : ∀ k, (∀ y0 y1 y2, LeO (spec_l03Put.l0 k y0 y1 y2) (spec_l03Put.l0 (k + 1) y0 y1 y2))
  | 0 => fun _ _ _ r h => by simp [spec_l03Put.l0] at h
  | k + 1 => by
    have ih0 := spec_l03Put.mono_l k
    · intro y0 y1 y2
      unfold spec_l03Put.l0
      repeat' first
      | (with_reducible exact ih0 _ _ _)
      | (with_reducible exact LeO.refl _)
      | (with_reducible exact LeO.none _)
      | (with_reducible refine LeO.ite ?_ ?_)
      | (with_reducible refine LeO.bind ?_ (fun _ => ?_))
      | exact ih0 _ _ _
      | exact LeO.none _
      | refine LeO.ite ?_ ?_
      | refine LeO.bind ?_ (fun _ => ?_)
theorem spec_l03Put.mono : ∀ a0 a1 k, LeO (spec_l03Put.f k a0 a1) (spec_l03Put.f (k + 1) a0 a1) := by
 intro a0 a1 k
 have ih0 := spec_l03Put.mono_l k
 unfold spec_l03Put.f
 repeat' first
     | (with_reducible exact ih0 _ _ _)
     | (with_reducible exact LeO.refl _)
     | (with_reducible exact LeO.none _)
     | (with_reducible refine LeO.ite ?_ ?_)
     | (with_reducible refine LeO.bind ?_ (fun _ => ?_))
     | exact ih0 _ _ _
     | exact LeO.none _
     | refine LeO.ite ?_ ?_
     | refine LeO.bind ?_ (fun _ => ?_)
set_option maxHeartbeats 60000000 in
set_option maxRecDepth 100000 in
theorem spec_l03Put.calls (k : Nat) (a0 : Int) (a1 : Int) (r : List Int) (w : World) (h : spec_l03Put.f k a0 a1 = some r) :
 Calls Try.prog 43 #[.int .i64 a0, .int .i64 a1] w fun e w' => ∃ v0_ : Value, e = .returned (v0_) ∧ Kd.R (Kd.int .u8) 5 w' w.heap.size (fun _ => True) v0_ r ∧ Below w.heap.size w w' := by
 have HB := Aside0.mk (Below.refl w.heap.size w)
 have H : (spec_l03Put.l0 k a0 (([] : List Int)) (wrap64 (a1 - 1))) = some r := h
 clear h
 obtain ⟨ak, ag⟩ : ∃ y_ : List Int, y_ = (([] : List Int)) := ⟨_, rfl⟩
 replace H : (spec_l03Put.l0 k a0 ak (wrap64 (a1 - 1))) = some r := by first | (rw [ag]; with_reducible exact H) | (have H2_ := (Option.bind_some _ _).symm.trans H; rw [ag]; with_reducible exact H2_) | (have H2_ := (Option.bind_some _ _).symm.trans H; with_reducible exact H2_) | with_reducible exact H | (rw [ag]; exact H) | exact H
 have Ny146 := Aside0.mk ag
 clear ag
 have H' := Aside0.mk H
 clear H
 go_enter Try.func43, Try.ntmps43
 go_wp2_with (first | ((with_reducible refine gate_dst (N := 7) rfl ?_); refine Kd.R_lit (Kd.int .u8) _ 5 ?hg (N := 7) ?hd (xs := ([] : List Int)) (inner := []) (ok := fun _ => True) (okp := fun _ => True) ?hr ?hp (fun _ hk => hk) trivial (Below.refl _ _) (Nat.le_refl _) (by simp) ?_; (case hd => rfl); (case hg => rfl); (case hr => first | (go_simp; done) | (go_simp; rfl)); (case hp => exact (Reps.none _ _)); intro ar ap ae hb hg_ hnew_; clear hg_ hnew_; (first | rw [← Ny146.out] at ae | (simp only [Int.reduceToNat] at ae; rw [← Ny146.out] at ae)); have am := Aside0.mk (Kd.R_lower ae (below_size wB)); replace HB := Aside0.mk (below_step wB hb); clear hb ae))
 go_loopg [5, 6] k (fun kq v5 v6 w' => ∃ (ac : List Int) (ab : Int), v6 = .int .i64 ab ∧ Aside0 (spec_l03Put.l0 kq a0 ac ab = some r) ∧ Aside0 (kq ≤ k) ∧ Aside0 (Kd.R (Kd.int .u8) 5 w' w.heap.size (fun _ => True) v5 ac) ∧ Aside0 (Below w.heap.size w w'))
 case atStart => exact ⟨(ak), (wrap64 (a1 - 1)), (by first | rfl | (simp; done) | (simp [*]; done)), H', ⟨Nat.le_refl _⟩, ⟨Rh am⟩, ⟨wB⟩⟩
 case round => (
 clear H'
 obtain ⟨ac, ab, rfl, HA, ao, HO_5, HB⟩ := hrel
 cases gk with
 | zero => exact absurd HA.out (by simp [spec_l03Put.l0])
 | succ k1 => {
 have H := HA.out
 clear HA
 simp only [spec_l03Put.l0] at H
 by_cases af : ab ≥ 0
 {
 rw [if_pos af] at H
 have c1003b0 : decide (0 ≤ ab) = true := decide_eq_true af
 clear af
 obtain ⟨aa, hji1004⟩ : ∃ j_ : Int, (IntKind.u64.wrap (wrap64 (8 * ab))) = j_ := ⟨_, rfl⟩
 replace H : (if 0 ≤ (aa) then (if ac.length < 140737488355328 then (spec_l03Put.l0 k1 a0 (ac ++ [(shr .i64 a0 (aa)) % 256]) (wrap64 (ab - 1))) else (none)) else (none)) = some r := by first | (rw [hji1004] at H; exact H) | (simp only [hji1004] at H ⊢; exact H)
 by_cases ah : 0 ≤ (aa)
 {
 rw [if_pos ah] at H
 have c1005b0 := eq_true ah
 have c1005b1 : decide (0 ≤ (aa)) = true := decide_eq_true ah
 clear ah
 obtain ⟨ad, hji1006⟩ : ∃ j_ : Int, (shr .i64 a0 (aa)) = j_ := ⟨_, rfl⟩
 replace H : (if ac.length < 140737488355328 then (spec_l03Put.l0 k1 a0 (ac ++ [(ad) % 256]) (wrap64 (ab - 1))) else (none)) = some r := by first | (rw [hji1006] at H; exact H) | (simp only [hji1006] at H ⊢; exact H)
 have hji1006_ : (a0 / 2 ^ min (aa).toNat 64) = ad := hji1006
 have hji1006z : (aa) ≤ 64 → (a0 / 2 ^ (aa).toNat) = ad := shr_small hji1006
 by_cases aj : ac.length < 140737488355328
 {
 rw [if_pos aj] at H
 have LMc1007 := Aside0.mk aj
 clear aj
 obtain ⟨al, ai⟩ : ∃ y_ : List Int, y_ = (ac ++ [(ad) % 256]) := ⟨_, rfl⟩
 replace H : (spec_l03Put.l0 k1 a0 al (wrap64 (ab - 1))) = some r := by first | (rw [ai]; with_reducible exact H) | (have H2_ := (Option.bind_some _ _).symm.trans H; rw [ai]; with_reducible exact H2_) | (have H2_ := (Option.bind_some _ _).symm.trans H; with_reducible exact H2_) | with_reducible exact H | (rw [ai]; exact H) | exact H
 have Ny149 := Aside0.mk ai
 clear ai
 have H' := Aside0.mk H
 clear H
 go_wp2_with (first | ((with_reducible refine gate_builtin (b := .append) (xs := #[.tmp 14, .tmp 21]) rfl ?_); at_builtin; refine Kd.R_append (Kd.int .u8) (w0 := w) w.heap.size rfl (.tmp 14) (.tmp 21) 22 5 (.int .u8 0) 1 rfl Try.underlying22 info5 rfl (by decide) (by omega) u5 ac ((ad) % 256) [.int .u8 ((ad) % 256)] (fun _ => True) (fun _ => False) rfl rfl ?aP (fun _ hk => hk.elim) ?aF ?aO ?aB ?aS ?aL ?_; (case aP => exact rfl); (case aB => exact wB); (case aF => exact (fun _ _ => trivial)); (case aO => exact (Rh HO_5)); (case aS => exact (below_size wB)); (case aL => have := LMc1007.out; omega); intro au aq ho hb hg hat; rw [← Ny149.out] at ho; replace HB := Aside0.mk (hb); have an := Aside0.mk (ho); clear HO_5; clear ho hb hg hat))
 go_roundg k1
 case measure => have := ao.out; omega
 case rel => exact ⟨(al), (wrap64 (ab - 1)), (by first | rfl | (simp; done) | (simp [*]; done)), H', ⟨by have := ao.out; omega⟩, ⟨Rh an⟩, ⟨wB⟩⟩
 }
 {
 rw [if_neg aj] at H
 exact absurd H (by simp)
 }
 }
 {
 rw [if_neg ah] at H
 exact absurd H (by simp)
 }
 }
 {
 rw [if_neg af] at H
 have c1003b0 : decide (0 ≤ ab) = false := decide_eq_false af
 clear af
 obtain rfl := Option.some.inj H
 go_wp2
 go_ret
 exact ⟨_, by first | rfl | (simp [errW_none, errW_some] <;> rfl) | (simp [*, errW_none, errW_some] <;> rfl), by (with_reducible repeat (first | apply Kd.R_alloc | apply Kd.R_drewN | apply Kd.R_drew)); exact HO_5.out, wB⟩
 }
 }
 )

end Go.Proofs.Ytfllcmeakcbiaaa.PFnOneBit
