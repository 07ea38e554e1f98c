-- Written for this claim by a program of this session (wip/mkprint.py: the print, turned at a few places). Not trusted: Lean checks it.
import Derived.Test.YtckhadlmhbhngaaPFnComplainx0
import Derived.Test.YtckhadlmhbhngaaPFnComplainx5
namespace Go.Proofs.Ytckhadlmhbhngaa.PFnComplain
open Go.RowKit Go.Proofs.YtckhadlmhbhngaaW.PrintWords Go.Proofs.YtckhadlmhbhngaaW.PrintLast Go.Proofs.YtckhadlmhbhngaaW.PrintMore
attribute [local go_sem] max2_int min2_int max_two min_two max_three min_three max_four min_four   -- for this text's walks alone
set_option linter.unusedVariables false
set_option linter.unusedSimpArgs false

/-! ### spec_l01Sub: function 58 -/
def spec_l01Sub.l0 : Nat → List Int → List Int → Int → Option (List Int × Int × Int)
  | 0, _, _, _ => none
  | k + 1, x0, x5, x6 => if x6 < (x0.length : Int) then (if 0 ≤ x6 then (if x5.length < 140737488355328 then (spec_l01Sub.l0 k x0 (x5 ++ [rd x0 x6]) (wrap64 (x6 + 1))) else (none)) else (none)) else ((spec_l01Begin.f k x5).bind fun bt204 => (some (x5, bt204.1, bt204.2)))
def spec_l01Sub.f (k : Nat) (l0 : List Int) (a1 : Int) : Option (List Int × Int × Int) := spec_l01Sub.l0 k l0 (([a1] : List Int)) 0
theorem spec_l01Sub.mono_l : ∀ k, (∀ y0 y1 y2, LeO (spec_l01Sub.l0 k y0 y1 y2) (spec_l01Sub.l0 (k + 1) y0 y1 y2))
  | 0 => fun _ _ _ r h => by simp [spec_l01Sub.l0] at h
  | k + 1 => by
    have ih0 := spec_l01Sub.mono_l k
    · intro y0 y1 y2
      unfold spec_l01Sub.l0
      repeat' first
      | (with_reducible exact ih0 _ _ _)
      | (with_reducible exact spec_l01Begin.mono _ _)
      | (with_reducible exact LeO.refl _)
      | (with_reducible exact LeO.none _)
      | (with_reducible refine LeO.ite ?_ ?_)
      | (with_reducible refine LeO.bind ?_ (fun _ => ?_))
      | exact ih0 _ _ _
      | exact spec_l01Begin.mono _ _
      | exact LeO.none _
      | refine LeO.ite ?_ ?_
      | refine LeO.bind ?_ (fun _ => ?_)
theorem spec_l01Sub.mono : ∀ a0 a1 k, LeO (spec_l01Sub.f k a0 a1) (spec_l01Sub.f (k + 1) a0 a1) := by
 intro a0 a1 k
 have ih0 := spec_l01Sub.mono_l k
 unfold spec_l01Sub.f
 repeat' first
     | (with_reducible exact ih0 _ _ _)
     | (with_reducible exact spec_l01Begin.mono _ _)
     | (with_reducible exact LeO.refl _)
     | (with_reducible exact LeO.none _)
     | (with_reducible refine LeO.ite ?_ ?_)
     | (with_reducible refine LeO.bind ?_ (fun _ => ?_))
     | exact ih0 _ _ _
     | exact spec_l01Begin.mono _ _
     | exact LeO.none _
     | refine LeO.ite ?_ ?_
     | refine LeO.bind ?_ (fun _ => ?_)
set_option maxHeartbeats 60000000 in
set_option maxRecDepth 100000 in
theorem spec_l01Sub.calls (k : Nat) (A0 : Option Addr) (c0 : Nat) (l0 : List Int) (a1 : Int) (r1 : List Int) (r2 : Int) (r3 : Int) (w : World) (hr0 : Kd.C (Kd.int .u8) w A0 l0.length l0) (hc0 : l0.length ≤ c0) (h : spec_l01Sub.f k l0 a1 = some (r1, r2, r3)) :
 Calls Try.prog 58 #[.slice A0 l0.length c0, .int .u8 a1] w fun e w' => ∃ v0_ : Value, e = .returned (.agg #[v0_, .int .i64 r2, .int .u64 r3]) ∧ Kd.R (Kd.int .u8) 5 w' w.heap.size (fun _ => True) v0_ r1 ∧ Below w.heap.size w w' := by
 have hu61 := Try.underlying61
 have HR0 := Aside0.mk hr0
 have aQ := Aside0.mk hc0
 clear hr0 hc0
 have HB := Aside0.mk (Below.refl w.heap.size w)
 have H : (spec_l01Sub.l0 k l0 (([a1] : List Int)) 0) = some (r1, r2, r3) := h
 clear h
 obtain ⟨ap, ai⟩ : ∃ y_ : List Int, y_ = (([a1] : List Int)) := ⟨_, rfl⟩
 replace H : (spec_l01Sub.l0 k l0 ap 0) = some (r1, r2, r3) := by first | (rw [ai]; with_reducible exact H) | (have H2_ := (Option.bind_some _ _).symm.trans H; rw [ai]; with_reducible exact H2_) | (have H2_ := (Option.bind_some _ _).symm.trans H; with_reducible exact H2_) | with_reducible exact H | (rw [ai]; exact H) | exact H
 have Ny197 := Aside0.mk ai
 clear ai
 have H' := Aside0.mk H
 clear H
 go_enter Try.func58, Try.ntmps58
 go_wp2_with (first | ((with_reducible refine gate_dst (N := 4) rfl ?_); refine boxE 4 #[.slice none 0 0, .int .i64 0, .int .u64 0] 61 ?_; intro ad hg aH hbox hb; have aa := Aside0.mk (hbox); have au := Aside0.mk ((by rw [hg]; exact (below_size wB) : w.heap.size ≤ ad)); replace HB := Aside0.mk (below_step wB hb); have aI := au; clear hb hbox hg) | ((with_reducible refine gate_dst (N := 8) rfl ?_); refine Kd.R_lit (Kd.int .u8) _ 5 ?hg (N := 8) ?hd (xs := ([a1] : List Int)) (inner := [.int .u8 a1]) (ok := fun _ => True) (okp := fun _ => True) ?hr ?hp (fun _ hk => hk) trivial (Below.refl _ _) (Nat.le_refl _) (by simp) ?_; (case hd => rfl); (case hg => rfl); (case hr => first | (go_simp; done) | (go_simp; rfl)); (case hp => exact (Reps.one (show Kd.M (Kd.int .u8) _ _ _ a1 [.int .u8 a1] from rfl) (Reps.none _ _))); intro aM aJ ag hb hg_ hnew_; clear hg_ hnew_; (first | rw [← Ny197.out] at ag | (simp only [Int.reduceToNat] at ag; rw [← Ny197.out] at ag)); have av := Aside0.mk (Kd.R_lower ag (below_size wB)); replace aa := Aside0.mk (blk_below (Bh aa) hb); replace HB := Aside0.mk (below_step wB hb); clear hb ag))
 go_loopg [5, 6] k (fun kq v5 v6 w' => ∃ (ac : List Int) (ab : Int), v6 = .int .i64 ab ∧ Aside0 (spec_l01Sub.l0 kq l0 ac ab = some (r1, r2, r3)) ∧ Aside0 (kq ≤ k) ∧ Aside0 (Kd.R (Kd.int .u8) 5 w' w.heap.size (fun _ => True) v5 ac) ∧ Aside0 (w'.heap[ad]? = some (.cells #[(.slice none 0 0), .int .i64 0, .int .u64 0] 61 (0, 0))) ∧ Aside0 (Below w.heap.size w w'))
 case atStart => exact ⟨(ap), (0), eS, H', ⟨Nat.le_refl _⟩, ⟨Rh av⟩, ⟨Bh aa⟩, ⟨wB⟩⟩
 case round => (
 clear H'
 obtain ⟨ac, ab, rfl, HA, ay, HO_5, aa, HB⟩ := hrel
 cases gk with
 | zero => exact absurd HA.out (by simp [spec_l01Sub.l0])
 | succ k1 => {
 have H := HA.out
 clear HA
 simp only [spec_l01Sub.l0] at H
 by_cases ah : ab < (l0.length : Int)
 {
 rw [if_pos ah] at H
 have c1004b0 : decide (ab < (l0.length : Int)) = true := decide_eq_true ah
 clear ah
 by_cases ak : 0 ≤ ab
 {
 rw [if_pos ak] at H
 have c1005b0 : decide (0 ≤ ab) = true := decide_eq_true ak
 clear ak
 by_cases al : ac.length < 140737488355328
 {
 rw [if_pos al] at H
 have LMc1006 := Aside0.mk al
 clear al
 obtain ⟨aq, aj⟩ : ∃ y_ : List Int, y_ = (ac ++ [rd l0 ab]) := ⟨_, rfl⟩
 replace H : (spec_l01Sub.l0 k1 l0 aq (wrap64 (ab + 1))) = some (r1, r2, r3) := by first | (rw [aj]; with_reducible exact H) | (have H2_ := (Option.bind_some _ _).symm.trans H; rw [aj]; with_reducible exact H2_) | (have H2_ := (Option.bind_some _ _).symm.trans H; with_reducible exact H2_) | with_reducible exact H | (rw [aj]; exact H) | exact H
 have Ny201 := Aside0.mk aj
 clear aj
 have H' := Aside0.mk H
 clear H
 have p200 : 0 ≤ (ab : Int) := dT
 have q200 : ab < (l0.length : Int) := dT
 obtain ⟨ad200, e200, hx200_0⟩ := Kd.at_int HR0.out ab p200 q200
 cases e200
 replace hx200_0 := (HB.out.cell (World.block_lt_of_cell? w _ hx200_0)).trans hx200_0
 replace p200 := eq_true p200
 replace q200 := eq_true q200
 go_wp2_with (first | ((with_reducible refine gate_builtin (b := .append) (xs := #[.tmp 15, .tmp 20]) rfl ?_); at_builtin; refine Kd.R_append (Kd.int .u8) (w0 := w) w.heap.size rfl (.tmp 15) (.tmp 20) 22 5 (.int .u8 0) 1 rfl Try.underlying22 info5 rfl (by decide) (by omega) u5 ac (rd l0 ab) [.int .u8 (rd l0 ab)] (fun _ => True) (fun _ => False) rfl rfl ?aP (fun _ hk => hk.elim) ?aF ?aO ?aB ?aS ?aL ?_; (case aP => exact rfl); (case aB => exact wB); (case aF => exact (fun _ _ => trivial)); (case aO => exact (Rh HO_5)); (case aS => exact (below_size wB)); (case aL => have := LMc1006.out; omega); intro aN aK ho hb hg hat; rw [← Ny201.out] at ho; replace aa := Aside0.mk (blk_grown (Bh aa) hg (Kd.R_ne HO_5.out aa.out (by decide))); replace HB := Aside0.mk (hb); have aw := Aside0.mk (ho); clear HO_5; clear ho hb hg hat))
 go_roundg k1
 case measure => have := ay.out; omega
 case rel => exact ⟨(aq), (wrap64 (ab + 1)), eS, H', ⟨by have := ay.out; omega⟩, ⟨Rh aw⟩, ⟨Bh aa⟩, ⟨wB⟩⟩
 }
 {
 rw [if_neg al] at H
 exact absurd H (by simp)
 }
 }
 {
 rw [if_neg ak] at H
 exact absurd H (by simp)
 }
 }
 {
 rw [if_neg ah] at H
 have c1004b0 : decide (ab < (l0.length : Int)) = false := decide_eq_false ah
 clear ah
 replace H := Option.bind_eq_some_iff.mp H
 obtain ⟨⟨am, an⟩, A10070, H⟩ := H
 try dsimp only at H
 have A1007 := Aside0.mk A10070
 clear A10070
 simp only [Option.some.injEq, Prod.mk.injEq] at H
 obtain ⟨rfl, rfl, rfl⟩ := H
 obtain ⟨ae, af, ar⟩ := Kd.R_slice HO_5.out
 subst ar
 go_wp2_with (first | ((with_reducible refine gate_callee (f := 27) rfl ?_); refine gL (some 23) Try.func27 #[.slice ae ac.length af] ?_; (with_reducible refine (spec_l01Begin.calls k1 _ _ ac am an _ ?side1 ?side2 A1007.out).mono ?_); (case side1 => exact Ch HO_5); (case side2 => exact (Kd.R_reads' HO_5.out).2.1); rintro e ax ⟨rfl, hb⟩; refine ⟨_, rfl, ?_⟩; replace HO_5 := Aside0.mk (Kd.R_below (Rh HO_5) hb); replace aa := Aside0.mk (blk_below (Bh aa) hb); replace HB := Aside0.mk (below_step wB hb); clear hb; obtain ⟨⟨az, aA, aC⟩, aD, aE, aG⟩ := cells3 aa.out) | ((with_reducible refine gate_store (t := 61) (p := 4) rfl ?_); refine storeE (((ax.setCell ⟨ad, 0, none⟩ (.slice ae ac.length af)).setCell ⟨ad, 1, none⟩ (.int .i64 am)).setCell ⟨ad, 2, none⟩ (.int .u64 an)) ?_; intro ao hw; have n0_ : Aside0 (Kd.R (Kd.int .u8) 5 ao w.heap.size (fun _ => True) (.slice ae ac.length af) ac) := ⟨(by rw [hw]; exact (by exact Kd.R_mono (Kd.R_far (p := ⟨ad, 2, none⟩) (Kd.R_far (p := ⟨ad, 1, none⟩) (Kd.R_far (p := ⟨ad, 0, none⟩) (Kd.R_types HO_5.out aa.out (by decide)) (fun _ hk => hk.2) (.slice ae ac.length af)) (fun _ hk => hk.2) (.int .i64 am)) (fun _ hk => hk.2) (.int .u64 an)) (fun _ hk => trivial)))⟩; have n1_ : Aside0 (ao.heap[ad]? = some (.cells #[.slice ae ac.length af, .int .i64 am, .int .u64 an] 61 (0, 0))) := ⟨(by rw [hw]; exact (by apply set3; exact aa.out))⟩; have n2_ : Aside0 (Below w.heap.size w ao) := ⟨(by rw [hw]; exact wB)⟩; clear hw; clear HO_5; clear aa; clear HB; have HO_5 := n0_; have aa := n1_; have HB := n2_; clear n0_ n1_ n2_))
 refine bodyPost_ret (results_cell_row rfl _ _ ad 61 #[.slice ae ac.length af, .int .i64 am, .int .u64 an] (0, 0) _ rfl (Bh aa) Try.underlying61 rfl (by kernel_rfl)) rfl ?_
 exact ⟨_, eR, by (with_reducible repeat (first | apply Kd.R_alloc | apply Kd.R_drewN | apply Kd.R_drew)); exact HO_5.out, wB⟩
 }
 }
 )

/-! ### spec_l01Bytes: function 33 -/
def spec_l01Bytes.l0 : Nat → Int → List Int → Int → List Int → Int → Int → Option (List Int × Int × Int)
  | 0, _, _, _, _, _, _ => none
  | k + 1, x1, x5, x6, ab, ac, ad => if x6 < x1 then ((spec_l01Next.f ab ac ad 256).bind fun aa => (if x5.length < 140737488355328 then (spec_l01Bytes.l0 k x1 (x5 ++ [(aa.1) % 256]) (wrap64 (x6 + 1)) ab aa.2.1 aa.2.2) else (none))) else (some (x5, ac, ad))
def spec_l01Bytes.f (k : Nat) (s0_0 : List Int) (s0_1 : Int) (s0_2 : Int) (a1 : Int) : Option (List Int × Int × Int) := spec_l01Bytes.l0 k a1 (([] : List Int)) 0 s0_0 s0_1 s0_2
theorem spec_l01Bytes.mono_l : ∀ k, (∀ y0 y1 y2 y3 y4 y5, LeO (spec_l01Bytes.l0 k y0 y1 y2 y3 y4 y5) (spec_l01Bytes.l0 (k + 1) y0 y1 y2 y3 y4 y5))
  | 0 => fun _ _ _ _ _ _ r h => by simp [spec_l01Bytes.l0] at h
  | k + 1 => by
    have ih0 := spec_l01Bytes.mono_l k
    · intro y0 y1 y2 y3 y4 y5
      unfold spec_l01Bytes.l0
      repeat' first
      | (with_reducible exact ih0 _ _ _ _ _ _)
      | (with_reducible exact LeO.refl _)
      | (with_reducible exact LeO.none _)
      | (with_reducible refine LeO.ite ?_ ?_)
      | (with_reducible refine LeO.bind ?_ (fun _ => ?_))
      | exact ih0 _ _ _ _ _ _
      | exact LeO.none _
      | refine LeO.ite ?_ ?_
      | refine LeO.bind ?_ (fun _ => ?_)
theorem spec_l01Bytes.mono : ∀ a0 a1 a2 a3 k, LeO (spec_l01Bytes.f k a0 a1 a2 a3) (spec_l01Bytes.f (k + 1) a0 a1 a2 a3) := by
 intro a0 a1 a2 a3 k
 have ih0 := spec_l01Bytes.mono_l k
 unfold spec_l01Bytes.f
 repeat' first
     | (with_reducible exact ih0 _ _ _ _ _ _)
     | (with_reducible exact LeO.refl _)
     | (with_reducible exact LeO.none _)
     | (with_reducible refine LeO.ite ?_ ?_)
     | (with_reducible refine LeO.bind ?_ (fun _ => ?_))
     | exact ih0 _ _ _ _ _ _
     | exact LeO.none _
     | refine LeO.ite ?_ ?_
     | refine LeO.bind ?_ (fun _ => ?_)
set_option maxHeartbeats 60000000 in
set_option maxRecDepth 100000 in
theorem spec_l01Bytes.calls (k : Nat) (g : Nat) (ab : List Int) (al : Int) (am : Int) (a1 : Int) (r1 : List Int) (r2 : Int) (r3 : Int) (w0 w : World) (hI : IsS61 w0 w g ab al am) (hB : Below w0.heap.size w0 w) (h : spec_l01Bytes.f k ab al am a1 = some (r1, r2, r3)) :
 Calls Try.prog 33 #[.pointer (some ⟨g, 0, none⟩), .int .i64 a1] w fun e w' => ∃ v0_ : Value, e = .returned (v0_) ∧ Kd.R (Kd.int .u8) 5 w' w.heap.size (fun _ => True) v0_ r1 ∧ IsS61 w0 w' g ab r2 r3 ∧ Below w0.heap.size w0 w' ∧ KeepBut w w' g none := by
 have aa := Aside0.mk hI
 have HK := Aside0.mk (KeepBut.refl w g none)
 have HL := Aside0.mk hB.size
 clear hI
 have HW0 := Aside0.mk hB.size
 have HB := Aside0.mk hB
 clear hB
 have H : (spec_l01Bytes.l0 k a1 (([] : List Int)) 0 ab al am) = some (r1, r2, r3) := h
 clear h
 obtain ⟨aq, ah⟩ : ∃ y_ : List Int, y_ = (([] : List Int)) := ⟨_, rfl⟩
 replace H : (spec_l01Bytes.l0 k a1 aq 0 ab al am) = some (r1, r2, r3) := by first | (rw [ah]; with_reducible exact H) | (have H2_ := (Option.bind_some _ _).symm.trans H; rw [ah]; with_reducible exact H2_) | (have H2_ := (Option.bind_some _ _).symm.trans H; with_reducible exact H2_) | with_reducible exact H | (rw [ah]; exact H) | exact H
 have Ny206 := Aside0.mk ah
 clear ah
 have H' := Aside0.mk H
 clear H
 go_enter Try.func33, Try.ntmps33
 go_wp2_with (first | ((with_reducible refine gate_dst (N := 7) rfl ?_); refine Kd.R_lit (Kd.int .u8) _ 5 ?hg (N := 7) ?hd (xs := ([] : List Int)) (inner := []) (ok := fun _ => True) (okp := fun _ => True) ?hr ?hp (fun _ hk => hk) trivial (Below.refl _ _) (Nat.le_refl _) (by simp) ?_; (case hd => rfl); (case hg => rfl); (case hr => first | (go_simp; done) | (go_simp; rfl)); (case hp => exact (Reps.none _ _)); intro aA ax ac hb hg_ hnew_; clear hg_ hnew_; (first | rw [← Ny206.out] at ac | (simp only [Int.reduceToNat] at ac; rw [← Ny206.out] at ac)); have au := Aside0.mk (Kd.R_lower ac (keep_size (w := w) (g := g) (row := none) (by repeat (first | (with_reducible first | exact HK.out | apply KeepBut.set_ | apply keep_drewN | apply keep_drew | apply keep_alloc) | exact HK.out)))); replace HK := Aside0.mk (KeepBut.trans (by repeat (first | (with_reducible first | exact HK.out | apply KeepBut.set_ | apply keep_drewN | apply keep_drew | apply keep_alloc) | exact HK.out)) (KeepBut.of_below hb g none) (.inl rfl)); replace HB := Aside0.mk (below_step (by repeat (first | (with_reducible first | exact HB.out | apply below_alloc | apply pw_below_drewN | apply below_drew1 | refine below_set ?_ (IsS61.ge aa.out)) | exact HB.out)) hb); replace aa := Aside0.mk (IsS61.below (iS61 aa) hb); clear hb ac))
 go_loopg [5, 6] k (fun kq v5 v6 w' => ∃ (aj : List Int) (ad : Int) (ae : Int) (af : Int), v6 = .int .i64 ad ∧ Aside0 (spec_l01Bytes.l0 kq a1 aj ad ab ae af = some (r1, r2, r3)) ∧ Aside0 (kq ≤ k) ∧ Aside0 (Kd.R (Kd.int .u8) 5 w' w.heap.size (fun _ => True) v5 aj) ∧ Aside0 (IsS61 w0 w' g ab ae af) ∧ Aside0 (KeepBut w w' g none) ∧ Aside0 (Below w0.heap.size w0 w'))
 case atStart => exact ⟨(aq), (0), (al), (am), eS, H', ⟨Nat.le_refl _⟩, ⟨Rh au⟩, ⟨by exact iS61 aa⟩, ⟨by repeat (first | (with_reducible first | exact HK.out | apply KeepBut.set_ | apply keep_drewN | apply keep_drew | apply keep_alloc) | exact HK.out)⟩, ⟨by repeat (first | (with_reducible first | exact HB.out | apply below_alloc | apply pw_below_drewN | apply below_drew1 | refine below_set ?_ (IsS61.ge aa.out)) | exact HB.out)⟩⟩
 case round => (
 clear H'
 obtain ⟨aj, ad, ae, af, rfl, HA, aw, HO_5, aa, HK, HB⟩ := hrel
 cases gk with
 | zero => exact absurd HA.out (by simp [spec_l01Bytes.l0])
 | succ k1 => {
 have H := HA.out
 clear HA
 simp only [spec_l01Bytes.l0] at H
 by_cases ag : ad < a1
 {
 rw [if_pos ag] at H
 have c1003b0 : decide (ad < a1) = true := decide_eq_true ag
 clear ag
 replace H := Option.bind_eq_some_iff.mp H
 obtain ⟨⟨an, ao, ap⟩, A10040, H⟩ := H
 try dsimp only at H
 have A1004 := Aside0.mk A10040
 clear A10040
 by_cases ak : aj.length < 140737488355328
 {
 rw [if_pos ak] at H
 have LMc1005 := Aside0.mk ak
 clear ak
 obtain ⟨ar, ai⟩ : ∃ y_ : List Int, y_ = (aj ++ [(an) % 256]) := ⟨_, rfl⟩
 replace H : (spec_l01Bytes.l0 k1 a1 ar (wrap64 (ad + 1)) ab ao ap) = some (r1, r2, r3) := by first | (rw [ai]; with_reducible exact H) | (have H2_ := (Option.bind_some _ _).symm.trans H; rw [ai]; with_reducible exact H2_) | (have H2_ := (Option.bind_some _ _).symm.trans H; with_reducible exact H2_) | with_reducible exact H | (rw [ai]; exact H) | exact H
 have Ny212 := Aside0.mk ai
 clear ai
 have H' := Aside0.mk H
 clear H
 go_wp2_with (first | ((with_reducible refine gate_callee (f := 30) rfl ?_); refine gL (some 15) Try.func30 #[.pointer (some ⟨g, 0, none⟩), .int .i64 256] ?_; (with_reducible refine (spec_l01Next.calls g ab ae af 256 an ao ap w0 _ ?side1 ?side2 A1004.out).mono ?_); (case side1 => exact iS61 aa); (case side2 => repeat (first | (with_reducible first | exact HB.out | apply below_alloc | apply pw_below_drewN | apply below_drew1 | refine below_set ?_ (IsS61.ge aa.out)) | exact HB.out)); rintro e ay ⟨rfl, hi, hb, hk⟩; refine ⟨_, rfl, ?_⟩; replace HO_5 := kR61 (iS61 aa) HO_5 hk; replace HK := Aside0.mk (KeepBut.trans (by repeat (first | (with_reducible first | exact HK.out | apply KeepBut.set_ | apply keep_drewN | apply keep_drew | apply keep_alloc) | exact HK.out)) hk (.inl rfl)); replace HB := Aside0.mk (hb); replace aa := Aside0.mk (hi); clear hb hk hi) | ((with_reducible refine gate_builtin (b := .append) (xs := #[.tmp 13, .tmp 17]) rfl ?_); at_builtin; refine Kd.R_append (Kd.int .u8) w.heap.size rfl (.tmp 13) (.tmp 17) 22 5 (.int .u8 0) 1 rfl Try.underlying22 info5 rfl (by decide) (by omega) u5 aj ((an) % 256) [.int .u8 ((an) % 256)] (fun _ => True) (fun _ => False) rfl rfl ?aP (fun _ hk => hk.elim) ?aF ?aO (Below.refl _ _) ?aS ?aL ?_; (case aP => exact rfl); (case aF => exact (fun _ _ => trivial)); (case aO => exact (Rh HO_5)); (case aS => exact (keep_size (w := w) (g := g) (row := none) (by repeat (first | (with_reducible first | exact HK.out | apply KeepBut.set_ | apply keep_drewN | apply keep_drew | apply keep_alloc) | exact HK.out)))); (case aL => have := LMc1005.out; omega); intro aB az ho hb hg hat; rw [← Ny212.out] at ho; replace HB := Aside0.mk (below_weaken (by repeat (first | (with_reducible first | exact HB.out | apply below_alloc | apply pw_below_drewN | apply below_drew1 | refine below_set ?_ (IsS61.ge aa.out)) | exact HB.out)) HL.out hb); replace aa := Aside0.mk (IsS61.grown (iS61 aa) hg (IsS61.own_ne aa.out HO_5.out (by decide))); replace HK := Aside0.mk (KeepBut.trans (by repeat (first | (with_reducible first | exact HK.out | apply KeepBut.set_ | apply keep_drewN | apply keep_drew | apply keep_alloc) | exact HK.out)) (KeepBut.of_grown hg g) (Kd.R_base2 HO_5.out)); have av := Aside0.mk (ho); clear HO_5; clear ho hb hg hat))
 go_roundg k1
 case measure => have := aw.out; omega
 case rel => exact ⟨(ar), (wrap64 (ad + 1)), (ao), (ap), eS, H', ⟨by have := aw.out; omega⟩, ⟨Rh av⟩, ⟨by exact iS61 aa⟩, ⟨by repeat (first | (with_reducible first | exact HK.out | apply KeepBut.set_ | apply keep_drewN | apply keep_drew | apply keep_alloc) | exact HK.out)⟩, ⟨by repeat (first | (with_reducible first | exact HB.out | apply below_alloc | apply pw_below_drewN | apply below_drew1 | refine below_set ?_ (IsS61.ge aa.out)) | exact HB.out)⟩⟩
 }
 {
 rw [if_neg ak] at H
 exact absurd H (by simp)
 }
 }
 {
 rw [if_neg ag] at H
 have c1003b0 : decide (ad < a1) = false := decide_eq_false ag
 clear ag
 simp only [Option.some.injEq, Prod.mk.injEq] at H
 obtain ⟨rfl, rfl, rfl⟩ := H
 go_wp2
 go_ret
 exact ⟨_, eR, by (with_reducible repeat (first | apply Kd.R_alloc | apply Kd.R_drewN | apply Kd.R_drew)); exact HO_5.out, by exact iS61 aa, by repeat (first | (with_reducible first | exact HB.out | apply below_alloc | apply pw_below_drewN | apply below_drew1 | refine below_set ?_ (IsS61.ge aa.out)) | exact HB.out), by repeat (first | (with_reducible first | exact HK.out | apply KeepBut.set_ | apply keep_drewN | apply keep_drew | apply keep_alloc) | exact HK.out)⟩
 }
 }
 )

end Go.Proofs.Ytckhadlmhbhngaa.PFnComplain
