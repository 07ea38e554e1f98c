-- Written for this claim by a program of this session (wip/mkprint.py: the print, turned at a few places). Not trusted: Lean checks it.
import Derived.Test.YtckhadlmhbhngaaPFnComplainx0
namespace Go.Proofs.Ytckhadlmhbhngaa.PFnComplain
open Go.RowKit Go.Proofs.YtckhadlmhbhngaaW.PrintWords Go.Proofs.YtckhadlmhbhngaaW.PrintLast Go.Proofs.YtckhadlmhbhngaaW.PrintMore
attribute [local go_sem] max2_int min2_int max_two min_two max_three min_three max_four min_four   -- for this text's walks alone
set_option linter.unusedVariables false
set_option linter.unusedSimpArgs false

/-! ### spec_l03Put: function 73 -/
def spec_l03Put.l0 : Nat → Int → List Int → Int → Option (List Int)
  | 0, _, _, _ => none
  | k + 1, x0, x5, x6 => if x6 ≥ 0 then (if 0 ≤ (IntKind.u64.wrap (wrap64 (8 * x6))) then (if x5.length < 140737488355328 then (spec_l03Put.l0 k x0 (x5 ++ [(shr .i64 x0 (IntKind.u64.wrap (wrap64 (8 * x6)))) % 256]) (wrap64 (x6 - 1))) else (none)) else (none)) else (some x5)
def spec_l03Put.f (k : Nat) (a0 : Int) (a1 : Int) : Option (List Int) := spec_l03Put.l0 k a0 (([] : List Int)) (wrap64 (a1 - 1))
theorem spec_l03Put.mono_l : ∀ k, (∀ y0 y1 y2, LeO (spec_l03Put.l0 k y0 y1 y2) (spec_l03Put.l0 (k + 1) y0 y1 y2))
  | 0 => fun _ _ _ r h => by simp [spec_l03Put.l0] at h
  | k + 1 => by
    have ih0 := spec_l03Put.mono_l k
    · intro y0 y1 y2
      unfold spec_l03Put.l0
      repeat' first
      | (with_reducible exact ih0 _ _ _)
      | (with_reducible exact LeO.refl _)
      | (with_reducible exact LeO.none _)
      | (with_reducible refine LeO.ite ?_ ?_)
      | (with_reducible refine LeO.bind ?_ (fun _ => ?_))
      | exact ih0 _ _ _
      | exact LeO.none _
      | refine LeO.ite ?_ ?_
      | refine LeO.bind ?_ (fun _ => ?_)
theorem spec_l03Put.mono : ∀ a0 a1 k, LeO (spec_l03Put.f k a0 a1) (spec_l03Put.f (k + 1) a0 a1) := by
 intro a0 a1 k
 have ih0 := spec_l03Put.mono_l k
 unfold spec_l03Put.f
 repeat' first
     | (with_reducible exact ih0 _ _ _)
     | (with_reducible exact LeO.refl _)
     | (with_reducible exact LeO.none _)
     | (with_reducible refine LeO.ite ?_ ?_)
     | (with_reducible refine LeO.bind ?_ (fun _ => ?_))
     | exact ih0 _ _ _
     | exact LeO.none _
     | refine LeO.ite ?_ ?_
     | refine LeO.bind ?_ (fun _ => ?_)
set_option maxHeartbeats 60000000 in
set_option maxRecDepth 100000 in
theorem spec_l03Put.calls (k : Nat) (a0 : Int) (a1 : Int) (r : List Int) (w : World) (h : spec_l03Put.f k a0 a1 = some r) :
 Calls Try.prog 73 #[.int .i64 a0, .int .i64 a1] w fun e w' => ∃ v0_ : Value, e = .returned (v0_) ∧ Kd.R (Kd.int .u8) 5 w' w.heap.size (fun _ => True) v0_ r ∧ Below w.heap.size w w' := by
 have HB := Aside0.mk (Below.refl w.heap.size w)
 have H : (spec_l03Put.l0 k a0 (([] : List Int)) (wrap64 (a1 - 1))) = some r := h
 clear h
 obtain ⟨ak, ag⟩ : ∃ y_ : List Int, y_ = (([] : List Int)) := ⟨_, rfl⟩
 replace H : (spec_l03Put.l0 k a0 ak (wrap64 (a1 - 1))) = some r := by first | (rw [ag]; with_reducible exact H) | (have H2_ := (Option.bind_some _ _).symm.trans H; rw [ag]; with_reducible exact H2_) | (have H2_ := (Option.bind_some _ _).symm.trans H; with_reducible exact H2_) | with_reducible exact H | (rw [ag]; exact H) | exact H
 have Ny266 := Aside0.mk ag
 clear ag
 have H' := Aside0.mk H
 clear H
 go_enter Try.func73, Try.ntmps73
 go_wp2_with (first | ((with_reducible refine gate_dst (N := 7) rfl ?_); refine Kd.R_lit (Kd.int .u8) _ 5 ?hg (N := 7) ?hd (xs := ([] : List Int)) (inner := []) (ok := fun _ => True) (okp := fun _ => True) ?hr ?hp (fun _ hk => hk) trivial (Below.refl _ _) (Nat.le_refl _) (by simp) ?_; (case hd => rfl); (case hg => rfl); (case hr => first | (go_simp; done) | (go_simp; rfl)); (case hp => exact (Reps.none _ _)); intro ar ap ae hb hg_ hnew_; clear hg_ hnew_; (first | rw [← Ny266.out] at ae | (simp only [Int.reduceToNat] at ae; rw [← Ny266.out] at ae)); have am := Aside0.mk (Kd.R_lower ae (below_size wB)); replace HB := Aside0.mk (below_step wB hb); clear hb ae))
 go_loopg [5, 6] k (fun kq v5 v6 w' => ∃ (ac : List Int) (ab : Int), v6 = .int .i64 ab ∧ Aside0 (spec_l03Put.l0 kq a0 ac ab = some r) ∧ Aside0 (kq ≤ k) ∧ Aside0 (Kd.R (Kd.int .u8) 5 w' w.heap.size (fun _ => True) v5 ac) ∧ Aside0 (Below w.heap.size w w'))
 case atStart => exact ⟨(ak), (wrap64 (a1 - 1)), eS, H', ⟨Nat.le_refl _⟩, ⟨Rh am⟩, ⟨wB⟩⟩
 case round => (
 clear H'
 obtain ⟨ac, ab, rfl, HA, ao, HO_5, HB⟩ := hrel
 cases gk with
 | zero => exact absurd HA.out (by simp [spec_l03Put.l0])
 | succ k1 => {
 have H := HA.out
 clear HA
 simp only [spec_l03Put.l0] at H
 by_cases af : ab ≥ 0
 {
 rw [if_pos af] at H
 have c1003b0 : decide (0 ≤ ab) = true := decide_eq_true af
 clear af
 obtain ⟨aa, hji1004⟩ : ∃ j_ : Int, (IntKind.u64.wrap (wrap64 (8 * ab))) = j_ := ⟨_, rfl⟩
 replace H : (if 0 ≤ (aa) then (if ac.length < 140737488355328 then (spec_l03Put.l0 k1 a0 (ac ++ [(shr .i64 a0 (aa)) % 256]) (wrap64 (ab - 1))) else (none)) else (none)) = some r := by first | (rw [hji1004] at H; exact H) | (simp only [hji1004] at H ⊢; exact H)
 by_cases ah : 0 ≤ (aa)
 {
 rw [if_pos ah] at H
 have c1005b0 := eq_true ah
 have c1005b1 : decide (0 ≤ (aa)) = true := decide_eq_true ah
 clear ah
 obtain ⟨ad, hji1006⟩ : ∃ j_ : Int, (shr .i64 a0 (aa)) = j_ := ⟨_, rfl⟩
 replace H : (if ac.length < 140737488355328 then (spec_l03Put.l0 k1 a0 (ac ++ [(ad) % 256]) (wrap64 (ab - 1))) else (none)) = some r := by first | (rw [hji1006] at H; exact H) | (simp only [hji1006] at H ⊢; exact H)
 have hji1006_ : (a0 / 2 ^ min (aa).toNat 64) = ad := hji1006
 have hji1006z : (aa) ≤ 64 → (a0 / 2 ^ (aa).toNat) = ad := shr_small hji1006
 by_cases aj : ac.length < 140737488355328
 {
 rw [if_pos aj] at H
 have LMc1007 := Aside0.mk aj
 clear aj
 obtain ⟨al, ai⟩ : ∃ y_ : List Int, y_ = (ac ++ [(ad) % 256]) := ⟨_, rfl⟩
 replace H : (spec_l03Put.l0 k1 a0 al (wrap64 (ab - 1))) = some r := by first | (rw [ai]; with_reducible exact H) | (have H2_ := (Option.bind_some _ _).symm.trans H; rw [ai]; with_reducible exact H2_) | (have H2_ := (Option.bind_some _ _).symm.trans H; with_reducible exact H2_) | with_reducible exact H | (rw [ai]; exact H) | exact H
 have Ny269 := Aside0.mk ai
 clear ai
 have H' := Aside0.mk H
 clear H
 go_wp2_with (first | ((with_reducible refine gate_builtin (b := .append) (xs := #[.tmp 14, .tmp 21]) rfl ?_); at_builtin; refine Kd.R_append (Kd.int .u8) (w0 := w) w.heap.size rfl (.tmp 14) (.tmp 21) 22 5 (.int .u8 0) 1 rfl Try.underlying22 info5 rfl (by decide) (by omega) u5 ac ((ad) % 256) [.int .u8 ((ad) % 256)] (fun _ => True) (fun _ => False) rfl rfl ?aP (fun _ hk => hk.elim) ?aF ?aO ?aB ?aS ?aL ?_; (case aP => exact rfl); (case aB => exact wB); (case aF => exact (fun _ _ => trivial)); (case aO => exact (Rh HO_5)); (case aS => exact (below_size wB)); (case aL => have := LMc1007.out; omega); intro au aq ho hb hg hat; rw [← Ny269.out] at ho; replace HB := Aside0.mk (hb); have an := Aside0.mk (ho); clear HO_5; clear ho hb hg hat))
 go_roundg k1
 case measure => have := ao.out; omega
 case rel => exact ⟨(al), (wrap64 (ab - 1)), eS, H', ⟨by have := ao.out; omega⟩, ⟨Rh an⟩, ⟨wB⟩⟩
 }
 {
 rw [if_neg aj] at H
 exact absurd H (by simp)
 }
 }
 {
 rw [if_neg ah] at H
 exact absurd H (by simp)
 }
 }
 {
 rw [if_neg af] at H
 have c1003b0 : decide (0 ≤ ab) = false := decide_eq_false af
 clear af
 obtain rfl := Option.some.inj H
 go_wp2
 go_ret
 exact ⟨_, eR, by (with_reducible repeat (first | apply Kd.R_alloc | apply Kd.R_drewN | apply Kd.R_drew)); exact HO_5.out, wB⟩
 }
 }
 )

/-! ### spec_l05Flag: function 81 -/
def spec_l05Flag.f (a0 : Bool) (a1 : Int) : Option (Int) := if a0 = true then (some a1) else (some 0)
set_option maxHeartbeats 60000000 in
set_option maxRecDepth 100000 in
theorem spec_l05Flag.calls (a0 : Bool) (a1 : Int) (r : Int) (w : World) (h : spec_l05Flag.f a0 a1 = some r) :
 Calls Try.prog 81 #[.bool a0, .int .i64 a1] w fun e w' => e = .returned (.int .i64 r) ∧ Drawn0 w w' := by
 have H : (if a0 = true then (some a1) else (some 0)) = some r := h
 clear h
 by_cases c3 : a0 = true
 {
 subst c3
 have H1 : (some a1) = some r := by rw [if_pos rfl] at H; exact H
 clear H
 have H := H1
 clear H1
 obtain rfl := Option.some.inj H
 go_enter Try.func81, Try.ntmps81
 go_wp2
 go_ret
 exact ⟨by first | rfl | (simp; done) | (simp [*]; done), by repeat (first | exact Drawn0.refl _ | apply Drawn0.step)⟩
 }
 {
 replace c3 := Bool.eq_false_iff.mpr c3
 subst c3
 have H1 : (some 0) = some r := by rw [if_neg (show ¬ (false = true) by decide)] at H; exact H
 clear H
 have H := H1
 clear H1
 obtain rfl := Option.some.inj H
 go_enter Try.func81, Try.ntmps81
 go_wp2
 go_ret
 exact ⟨by first | rfl | (simp; done) | (simp [*]; done), by repeat (first | exact Drawn0.refl _ | apply Drawn0.step)⟩
 }

end Go.Proofs.Ytckhadlmhbhngaa.PFnComplain
