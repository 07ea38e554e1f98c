-- Written for this claim by a program of this session (wip/mkprint.py: the print, turned at a few places). Not trusted: Lean checks it.
import Derived.Test.YtfllcmeakcbiaaaPFnExactDecodeSegmentx0
import Derived.Test.YtfllcmeakcbiaaaPFnExactDecodeSegmentx7
namespace Go.Proofs.Ytfllcmeakcbiaaa.PFnExactDecodeSegment
open Go.RowKit Go.Proofs.YtfllcmeakcbiaaaW.PrintWords Go.Proofs.YtfllcmeakcbiaaaW.PrintLast Go.Proofs.YtfllcmeakcbiaaaW.PrintMore
attribute [local go_sem] max2_int min2_int max_two min_two max_three min_three max_four min_four   -- for this text's walks alone
set_option linter.unusedVariables false
set_option linter.unusedSimpArgs false

/-! ### laws_markStretchS: function 34 -/
def laws_markStretchS.l0 : Nat → List (S60) → Int → Int → Option (Int × (List (S60)))
  | 0, _, _, _ => none
  | k + 1, x0, x1, x5 => if x5 < (x0.length : Int) then (if 0 ≤ x5 then ((some (x0.set (x5 : Int).toNat (⟨x1, (rd_T60 x0 x5).f1⟩ : S60) : List (S60))).bind fun y217 => (laws_markStretchS.l0 k (y217.set (x5 : Int).toNat (⟨(rd_T60 y217 x5).f0, wrap64 (x1 + 1)⟩ : S60)) (wrap64 ((wrap64 (x1 + 1)) + 1)) (wrap64 (x5 + 1)))) else (none)) else (some (x1, x0))
def laws_markStretchS.f (k : Nat) (l0 : List (S60)) (a1 : Int) : Option (Int × (List (S60))) := laws_markStretchS.l0 k l0 a1 0
theorem laws_markStretchS.mono_l : ∀ k, (∀ y0 y1 y2, LeO (laws_markStretchS.l0 k y0 y1 y2) (laws_markStretchS.l0 (k + 1) y0 y1 y2))
  | 0 => fun _ _ _ r h => by simp [laws_markStretchS.l0] at h
  | k + 1 => by
    have ih0 := laws_markStretchS.mono_l k
    · intro y0 y1 y2
      unfold laws_markStretchS.l0
      repeat' first
      | (with_reducible exact ih0 _ _ _)
      | (with_reducible exact LeO.refl _)
      | (with_reducible exact LeO.none _)
      | (with_reducible refine LeO.ite ?_ ?_)
      | (with_reducible refine LeO.bind ?_ (fun _ => ?_))
      | exact ih0 _ _ _
      | exact LeO.none _
      | refine LeO.ite ?_ ?_
      | refine LeO.bind ?_ (fun _ => ?_)
theorem laws_markStretchS.mono : ∀ a0 a1 k, LeO (laws_markStretchS.f k a0 a1) (laws_markStretchS.f (k + 1) a0 a1) := by
 intro a0 a1 k
 have ih0 := laws_markStretchS.mono_l k
 unfold laws_markStretchS.f
 repeat' first
     | (with_reducible exact ih0 _ _ _)
     | (with_reducible exact LeO.refl _)
     | (with_reducible exact LeO.none _)
     | (with_reducible refine LeO.ite ?_ ?_)
     | (with_reducible refine LeO.bind ?_ (fun _ => ?_))
     | exact ih0 _ _ _
     | exact LeO.none _
     | refine LeO.ite ?_ ?_
     | refine LeO.bind ?_ (fun _ => ?_)
set_option maxHeartbeats 60000000 in
set_option maxRecDepth 100000 in
theorem laws_markStretchS.calls (k : Nat) (P0_ : Nat → Prop) (u9000_ : Value) (l0 : List (S60)) (a1 : Int) (r1 : Int) (r2 : List (S60)) (w0 w : World) (hB : Below w0.heap.size w0 w) (ho0 : Kd.R k60 60 w w0.heap.size P0_ u9000_ l0) (h : laws_markStretchS.f k l0 a1 = some (r1, r2)) :
 Calls Try.prog 34 #[u9000_, .int .i64 a1] w fun e w' => e = .returned (.int .i64 r1) ∧ Kd.R k60 60 w' w0.heap.size (fun k_ => (P0_ k_ ∨ w.heap.size ≤ k_)) u9000_ r2 ∧ Below w0.heap.size w0 w' ∧ Kept w w' (fun k_ => P0_ k_) := by
 have HO0 := Aside0.mk (show Kd.R k60 60 w w0.heap.size (fun k_ => (P0_ k_ ∨ w.heap.size ≤ k_)) u9000_ l0 from Kd.R_mono ho0 (fun k_ hk => (.inl hk)))
 have HK := Aside0.mk (Kept.refl w (fun k_ => P0_ k_))
 have HW0 := Aside0.mk hB.size
 have HB := Aside0.mk hB
 clear hB
 have H : (laws_markStretchS.l0 k l0 a1 0) = some (r1, r2) := h
 clear h
 have H' := Aside0.mk H
 clear H
 go_enter Try.func34, Try.ntmps34
 go_wp2
 go_loopg [1, 5] k (fun kq v1 v5 w' => ∃ (x0_1 : List (S60)) (x1_1 : Int) (x5_1 : Int), v1 = .int .i64 x1_1 ∧ v5 = .int .i64 x5_1 ∧ Aside0 (laws_markStretchS.l0 kq x0_1 x1_1 x5_1 = some (r1, r2)) ∧ Aside0 (kq ≤ k) ∧ Aside0 (Kd.R k60 60 w' w0.heap.size (fun k_ => (P0_ k_ ∨ w.heap.size ≤ k_)) u9000_ x0_1) ∧ Aside0 (Kept w w' (fun k_ => P0_ k_)) ∧ Aside0 (Below w0.heap.size w0 w'))
 case atStart => exact ⟨(l0), (a1), (0), (by first | rfl | (simp; done) | (simp [*]; done)), (by first | rfl | (simp; done) | (simp [*]; done)), H', ⟨Nat.le_refl _⟩, ⟨Rh HO0⟩, ⟨by repeat (first | (with_reducible first | exact HK.out | apply Kept.alloc | apply Kept.drewN | apply Kept.drew) | exact HK.out)⟩, ⟨wB⟩⟩
 case round => (
 clear H'
 obtain ⟨x0_1, x1_1, x5_1, rfl, rfl, HA, HK1, HO_0, HK, HB⟩ := hrel
 cases gk with
 | zero => exact absurd HA.out (by simp [laws_markStretchS.l0])
 | succ k1 => {
 have H := HA.out
 clear HA
 simp only [laws_markStretchS.l0] at H
 by_cases c1001 : x5_1 < (x0_1.length : Int)
 {
 rw [if_pos c1001] at H
 have c1001b0 : decide (x5_1 < (x0_1.length : Int)) = true := decide_eq_true c1001
 clear c1001
 by_cases c1002 : 0 ≤ x5_1
 {
 rw [if_pos c1002] at H
 have c1002b0 : decide (0 ≤ x5_1) = true := decide_eq_true c1002
 clear c1002
 obtain ⟨y217, hy217⟩ : ∃ y_ : List (S60), y_ = (x0_1.set (x5_1 : Int).toNat (⟨x1_1, (rd_T60 x0_1 x5_1).f1⟩ : S60)) := ⟨_, rfl⟩
 replace H : (laws_markStretchS.l0 k1 (y217.set (x5_1 : Int).toNat (⟨(rd_T60 y217 x5_1).f0, wrap64 (x1_1 + 1)⟩ : S60)) (wrap64 ((wrap64 (x1_1 + 1)) + 1)) (wrap64 (x5_1 + 1))) = some (r1, r2) := by first | (rw [hy217]; with_reducible exact H) | (have H2_ := (Option.bind_some _ _).symm.trans H; rw [hy217]; with_reducible exact H2_) | (have H2_ := (Option.bind_some _ _).symm.trans H; with_reducible exact H2_) | with_reducible exact H | (rw [hy217]; exact H) | exact H
 have Ny217 := Aside0.mk hy217
 clear hy217
 obtain ⟨y218, hy218⟩ : ∃ y_ : List (S60), y_ = (y217.set (x5_1 : Int).toNat (⟨(rd_T60 y217 x5_1).f0, wrap64 (x1_1 + 1)⟩ : S60)) := ⟨_, rfl⟩
 replace H : (laws_markStretchS.l0 k1 y218 (wrap64 ((wrap64 (x1_1 + 1)) + 1)) (wrap64 (x5_1 + 1))) = some (r1, r2) := by first | (rw [hy218]; with_reducible exact H) | (have H2_ := (Option.bind_some _ _).symm.trans H; rw [hy218]; with_reducible exact H2_) | (have H2_ := (Option.bind_some _ _).symm.trans H; with_reducible exact H2_) | with_reducible exact H | (rw [hy218]; exact H) | exact H
 have Ny218 := Aside0.mk hy218
 clear hy218
 have H' := Aside0.mk H
 clear H
 obtain ⟨Ao2001, co2001, eo2001⟩ := Kd.R_slice HO_0.out
 subst eo2001
 have p1003 : 0 ≤ (x5_1 : Int) := of_decide_eq_true (by first | (with_reducible assumption) | assumption)
 have q1003 : (x5_1 : Int) < ((x0_1.length : Int) : Int) := of_decide_eq_true (by first | (with_reducible assumption) | assumption)
 obtain ⟨go1003, co1003, eo1003, gb1003, gl1003, cl1003, HG1003⟩ := Kd.R_form HO_0.out (by omega)
 (first | cases eo1003 | (injection eo1003 with ea_ en_ ec_; (first | subst ea_ | (injection ea_ with ea_; subst ea_)); subst ec_; clear en_))
 have GB1003 := Aside0.mk gb1003
 have GG1003 := Aside0.mk HG1003
 clear gb1003 gl1003 HG1003
 have HMgo1003 := Aside0.mk (show (P0_ go1003 ∨ w.heap.size ≤ go1003) from (HO_0.out.1 _ rfl))
 obtain ⟨ce1003, hcl1003, hM1003, hcc1003, hfr1003⟩ := Kd.R_elem HO_0.out z60 (x5_1 : Int) p1003 q1003
 obtain rfl := k60_openM hM1003
 have hx1003_0 : wr.cell? ⟨go1003, (x5_1 : Int).toNat * 2, none⟩ = some (.int .i64 ((rd_T60 x0_1 x5_1).f0)) := hcc1003 0 _ rfl
 have hx1003_1 : wr.cell? ⟨go1003, (x5_1 : Int).toNat * 2 + 1, none⟩ = some (.int .i64 ((rd_T60 x0_1 x5_1).f1)) := hcc1003 1 _ rfl
 have hf1003_0 : wr.frozen? ⟨go1003, (x5_1 : Int).toNat * 2, none⟩ = false := hfr1003 0
 have hf1003_1 : wr.frozen? ⟨go1003, (x5_1 : Int).toNat * 2 + 1, none⟩ = false := hfr1003 1
 clear hcl1003 hcc1003 hfr1003 hM1003
 replace p1003 := eq_true p1003
 replace q1003 := eq_true q1003
 have HX2002 := Aside0.mk (show Kd.R k60 60 wr w0.heap.size (fun k_ => (P0_ k_ ∨ w.heap.size ≤ k_)) (.slice (some ⟨go1003, 0, none⟩) x0_1.length co2001) x0_1 from (Rh HO_0))
 obtain ⟨ce2002, hcl2002, hM2002, hcc2002, hfr2002⟩ := Kd.R_elem HX2002.out z60 (x5_1 : Int) (of_decide_eq_true (by first | (with_reducible assumption) | assumption)) (by have h_ : (x5_1 : Int) < ((x0_1.length : Int) : Int) := of_decide_eq_true (by first | (with_reducible assumption) | assumption); first | exact h_ | (have e_ := (Kd.R_reads' HO_0.out).1; omega) | simpa using h_)
 obtain rfl := k60_openM hM2002
 have HP2002 := Kd.R_seg HX2002.out (x5_1 : Int) (of_decide_eq_true (by first | (with_reducible assumption) | assumption)) (by have h_ : (x5_1 : Int) < ((x0_1.length : Int) : Int) := of_decide_eq_true (by first | (with_reducible assumption) | assumption); first | exact h_ | (have e_ := (Kd.R_reads' HO_0.out).1; omega) | simpa using h_) (seg := [.int .i64 x1_1]) (j := 0) hcl2002 hcc2002 (show 1 ≤ 2 from by decide) (x' := (⟨x1_1, (rd_T60 x0_1 x5_1).f1⟩ : S60)) (k60_mkM _ _ _ (⟨x1_1, (rd_T60 x0_1 x5_1).f1⟩ : S60) ) (fun _ hk => hk)
 have hx2002_0 := hcc2002 0 _ rfl
 (try simp only [show (k60).sz = 2 from rfl, Nat.mul_one, Nat.add_zero] at hx2002_0)
 have hf2002_0 := hfr2002 0
 (try simp only [show (k60).sz = 2 from rfl, Nat.mul_one, Nat.add_zero] at hf2002_0)
 clear hcl2002 hcc2002 hfr2002 hM2002
 go_wp2_with (first | ((with_reducible refine gate_store (t := 2) (p := 16) rfl ?_); refine store_event (t := 2) (p := 16) (v := ?_) (w1 := (wr.setCell ⟨go1003, (x5_1 : Int).toNat * 2, none⟩ (.int .i64 x1_1))) ?hg ?ho ?hn ?hr ?_; (case ho => rfl); (case hg => rfl); (case hn => rfl); (case hr => first | (go_simp; done) | (go_simp; rfl)); intro w2003 hw; have hg : wr.grownBy w2003 (some go1003) := (by rw [hw]; exact HP2002.2); have hp_ : Kd.R k60 60 w2003 w0.heap.size (fun k_ => (P0_ k_ ∨ w.heap.size ≤ k_)) (.slice (some ⟨go1003, 0, none⟩) x0_1.length co2001) y217 := (by rw [hw, Ny217.out]; exact HP2002.1); clear HP2002; have n0_ := Aside0.mk (hp_); have n1_ := Aside0.mk ((by rw [hw]; exact below_set (HB.out) GB1003.out : Below w0.heap.size w0 w2003)); have n2_ := Aside0.mk (Kept.of_grown (S := (fun k_ => P0_ k_)) hg (by repeat (first | (with_reducible first | exact HK.out | apply Kept.alloc | apply Kept.drewN | apply Kept.drew) | exact HK.out)) (fun k_ e_ => (HO_0.out.1 k_ e_))); clear HO_0; clear HB; clear HK; have HO_0 := n0_; have HB := n1_; have HK := n2_; clear n0_ n1_ n2_; clear hg hw hp_; have p1004 : 0 ≤ (x5_1 : Int) := of_decide_eq_true (by first | (with_reducible assumption) | assumption); have q1004 : (x5_1 : Int) < ((x0_1.length : Int) : Int) := of_decide_eq_true (by first | (with_reducible assumption) | assumption); obtain ⟨ce1004, hcl1004, hM1004, hcc1004, hfr1004⟩ := Kd.R_elem HO_0.out z60 (x5_1 : Int) p1004 q1004; obtain rfl := k60_openM hM1004; have hx1004_0 : w2003.cell? ⟨go1003, (x5_1 : Int).toNat * 2, none⟩ = some (.int .i64 ((rd_T60 y217 x5_1).f0)) := hcc1004 0 _ rfl; have hx1004_1 : w2003.cell? ⟨go1003, (x5_1 : Int).toNat * 2 + 1, none⟩ = some (.int .i64 ((rd_T60 y217 x5_1).f1)) := hcc1004 1 _ rfl; have hf1004_0 : w2003.frozen? ⟨go1003, (x5_1 : Int).toNat * 2, none⟩ = false := hfr1004 0; have hf1004_1 : w2003.frozen? ⟨go1003, (x5_1 : Int).toNat * 2 + 1, none⟩ = false := hfr1004 1; clear hcl1004 hcc1004 hfr1004 hM1004; replace p1004 := eq_true p1004; replace q1004 := eq_true q1004; have HX2004 := Aside0.mk (show Kd.R k60 60 w2003 w0.heap.size (fun k_ => (P0_ k_ ∨ w.heap.size ≤ k_)) (.slice (some ⟨go1003, 0, none⟩) x0_1.length co2001) y217 from (Rh HO_0)); obtain ⟨ce2004, hcl2004, hM2004, hcc2004, hfr2004⟩ := Kd.R_elem HX2004.out z60 (x5_1 : Int) (of_decide_eq_true (by first | (with_reducible assumption) | assumption)) (by have h_ : (x5_1 : Int) < ((x0_1.length : Int) : Int) := of_decide_eq_true (by first | (with_reducible assumption) | assumption); first | exact h_ | (have e_ := (Kd.R_reads' HO_0.out).1; omega) | simpa using h_); obtain rfl := k60_openM hM2004; have HP2004 := Kd.R_seg HX2004.out (x5_1 : Int) (of_decide_eq_true (by first | (with_reducible assumption) | assumption)) (by have h_ : (x5_1 : Int) < ((x0_1.length : Int) : Int) := of_decide_eq_true (by first | (with_reducible assumption) | assumption); first | exact h_ | (have e_ := (Kd.R_reads' HO_0.out).1; omega) | simpa using h_) (seg := [.int .i64 (wrap64 (x1_1 + 1))]) (j := 1) hcl2004 hcc2004 (show 2 ≤ 2 from by decide) (x' := (⟨(rd_T60 y217 x5_1).f0, wrap64 (x1_1 + 1)⟩ : S60)) (k60_mkM _ _ _ (⟨(rd_T60 y217 x5_1).f0, wrap64 (x1_1 + 1)⟩ : S60) ) (fun _ hk => hk); have hx2004_1 := hcc2004 1 _ rfl; (try simp only [show (k60).sz = 2 from rfl, Nat.mul_one, Nat.add_zero] at hx2004_1); have hf2004_1 := hfr2004 1; (try simp only [show (k60).sz = 2 from rfl, Nat.mul_one, Nat.add_zero] at hf2004_1); clear hcl2004 hcc2004 hfr2004 hM2004) | ((with_reducible refine gate_store (t := 2) (p := 23) rfl ?_); refine store_event (t := 2) (p := 23) (v := ?_) (w1 := (w2003.setCell ⟨go1003, (x5_1 : Int).toNat * 2 + 1, none⟩ (.int .i64 (wrap64 (x1_1 + 1))))) ?hg ?ho ?hn ?hr ?_; (case ho => rfl); (case hg => rfl); (case hn => rfl); (case hr => first | (go_simp; done) | (go_simp; rfl)); intro w2005 hw; have hg : w2003.grownBy w2005 (some go1003) := (by rw [hw]; exact HP2004.2); have hp_ : Kd.R k60 60 w2005 w0.heap.size (fun k_ => (P0_ k_ ∨ w.heap.size ≤ k_)) (.slice (some ⟨go1003, 0, none⟩) x0_1.length co2001) y218 := (by rw [hw, Ny218.out]; exact HP2004.1); clear HP2004; have n0_ := Aside0.mk (hp_); have n1_ := Aside0.mk ((by rw [hw]; exact below_set (HB.out) GB1003.out : Below w0.heap.size w0 w2005)); have n2_ := Aside0.mk (Kept.of_grown (S := (fun k_ => P0_ k_)) hg (by repeat (first | (with_reducible first | exact HK.out | apply Kept.alloc | apply Kept.drewN | apply Kept.drew) | exact HK.out)) (fun k_ e_ => (HO_0.out.1 k_ e_))); clear HO_0; clear HB; clear HK; have HO_0 := n0_; have HB := n1_; have HK := n2_; clear n0_ n1_ n2_; clear hg hw hp_))
 go_roundg k1
 case measure => have := HK1.out; omega
 case rel => exact ⟨(y218), (wrap64 ((wrap64 (x1_1 + 1)) + 1)), (wrap64 (x5_1 + 1)), (by first | rfl | (simp; done) | (simp [*]; done)), (by first | rfl | (simp; done) | (simp [*]; done)), H', ⟨by have := HK1.out; omega⟩, ⟨Rh HO_0⟩, ⟨by repeat (first | (with_reducible first | exact HK.out | apply Kept.alloc | apply Kept.drewN | apply Kept.drew) | exact HK.out)⟩, ⟨wB⟩⟩
 }
 {
 rw [if_neg c1002] at H
 exact absurd H (by simp)
 }
 }
 {
 rw [if_neg c1001] at H
 have c1001b0 : decide (x5_1 < (x0_1.length : Int)) = false := decide_eq_false c1001
 clear c1001
 simp only [Option.some.injEq, Prod.mk.injEq] at H
 obtain ⟨rfl, rfl⟩ := H
 obtain ⟨Ao2001, co2001, eo2001⟩ := Kd.R_slice HO_0.out
 subst eo2001
 go_wp2
 go_ret
 exact ⟨by first | rfl | (simp [errW_none, errW_some] <;> rfl) | (simp [*, errW_none, errW_some] <;> rfl), by (with_reducible repeat (first | apply Kd.R_alloc | apply Kd.R_drewN | apply Kd.R_drew)); exact HO_0.out, wB, by repeat (first | (with_reducible first | exact HK.out | apply Kept.alloc | apply Kept.drewN | apply Kept.drew) | exact HK.out)⟩
 }
 }
 )

/-! ### laws_markSegment: function 11 -/
def laws_markSegment.f (k : Nat) (a0_0 : Int) (a0_1 : Int) (a0_2 : Int) (a0_3 : Int) (a0_4 : Int) (a0_5 : Int) (a0_6 : Int) (a0_7 : Bool) (a0_8 : Int) (a0_9 : Bool) (l0_10 : List (S60)) (l0_11 : List Int) (a1 : Int) : Option (Int × (List (S60)) × List Int) := (laws_markStretchS.f k l0_10 a1).bind fun bt220 => ((laws_markByteS.f k l0_11 bt220.1).bind fun bt222 => (some (bt222.1, bt220.2, bt222.2)))
theorem laws_markSegment.mono : ∀ a0 a1 a2 a3 a4 a5 a6 a7 a8 a9 a10 a11 a12 k, LeO (laws_markSegment.f k a0 a1 a2 a3 a4 a5 a6 a7 a8 a9 a10 a11 a12) (laws_markSegment.f (k + 1) a0 a1 a2 a3 a4 a5 a6 a7 a8 a9 a10 a11 a12) := by
 intro a0 a1 a2 a3 a4 a5 a6 a7 a8 a9 a10 a11 a12 k
 unfold laws_markSegment.f
 repeat' first
     | (with_reducible exact laws_markByteS.mono _ _ _)
     | (with_reducible exact laws_markStretchS.mono _ _ _)
     | (with_reducible exact LeO.refl _)
     | (with_reducible exact LeO.none _)
     | (with_reducible refine LeO.ite ?_ ?_)
     | (with_reducible refine LeO.bind ?_ (fun _ => ?_))
     | exact laws_markByteS.mono _ _ _
     | exact laws_markStretchS.mono _ _ _
     | exact LeO.none _
     | refine LeO.ite ?_ ?_
     | refine LeO.bind ?_ (fun _ => ?_)
set_option maxHeartbeats 60000000 in
set_option maxRecDepth 100000 in
theorem laws_markSegment.calls (k : Nat) (a0_0 : Int) (a0_1 : Int) (a0_2 : Int) (a0_3 : Int) (a0_4 : Int) (a0_5 : Int) (a0_6 : Int) (a0_7 : Bool) (a0_8 : Int) (a0_9 : Bool) (P0_10_ : Nat → Prop) (u9000_ : Value) (l0_10 : List (S60)) (P0_11_ : Nat → Prop) (u9001_ : Value) (l0_11 : List Int) (a1 : Int) (r1 : Int) (r2 : List (S60)) (r3 : List Int) (w0 w : World) (hB : Below w0.heap.size w0 w) (ho0_10 : Kd.R k60 60 w w0.heap.size P0_10_ u9000_ l0_10) (ho0_11 : Kd.R (Kd.int .u8) 5 w w0.heap.size P0_11_ u9001_ l0_11) (h : laws_markSegment.f k a0_0 a0_1 a0_2 a0_3 a0_4 a0_5 a0_6 a0_7 a0_8 a0_9 l0_10 l0_11 a1 = some (r1, r2, r3)) :
 Calls Try.prog 11 #[.agg #[.int .i64 a0_0, .int .i64 a0_1, .int .i64 a0_2, .int .i64 a0_3, .int .i64 a0_4, .int .i64 a0_5, .int .i64 a0_6, .bool a0_7, .int .i64 a0_8, .bool a0_9, u9000_, u9001_], .int .i64 a1] w fun e w' => e = .returned (.int .i64 r1) ∧ Kd.R k60 60 w' w0.heap.size (fun k_ => ((P0_10_ k_ ∨ P0_11_ k_) ∨ w.heap.size ≤ k_)) u9000_ r2 ∧ Kd.R (Kd.int .u8) 5 w' w0.heap.size (fun k_ => ((P0_10_ k_ ∨ P0_11_ k_) ∨ w.heap.size ≤ k_)) u9001_ r3 ∧ Below w0.heap.size w0 w' ∧ Kept w w' (fun k_ => P0_10_ k_ ∨ P0_11_ k_) := by
 have hu25 := Try.underlying25
 have HO0_10 := Aside0.mk (show Kd.R k60 60 w w0.heap.size (fun k_ => ((P0_10_ k_ ∨ P0_11_ k_) ∨ w.heap.size ≤ k_)) u9000_ l0_10 from Kd.R_mono ho0_10 (fun k_ hk => (.inl (.inl hk))))
 have HO0_11 := Aside0.mk (show Kd.R (Kd.int .u8) 5 w w0.heap.size (fun k_ => ((P0_10_ k_ ∨ P0_11_ k_) ∨ w.heap.size ≤ k_)) u9001_ l0_11 from Kd.R_mono ho0_11 (fun k_ hk => (.inl (.inr hk))))
 have HK := Aside0.mk (Kept.refl w (fun k_ => P0_10_ k_ ∨ P0_11_ k_))
 have HW0 := Aside0.mk hB.size
 have HB := Aside0.mk hB
 clear hB
 have H : ((laws_markStretchS.f k l0_10 a1).bind fun bt220 => ((laws_markByteS.f k l0_11 bt220.1).bind fun bt222 => (some (bt222.1, bt220.2, bt222.2)))) = some (r1, r2, r3) := h
 clear h
 replace H := Option.bind_eq_some_iff.mp H
 obtain ⟨⟨t220, t221⟩, A30, H⟩ := H
 replace H : ((laws_markByteS.f k l0_11 t220).bind fun bt222 => (some (bt222.1, t221, bt222.2))) = some (r1, r2, r3) := H
 have A3 := Aside0.mk A30
 clear A30
 replace H := Option.bind_eq_some_iff.mp H
 obtain ⟨⟨t222, t223⟩, A40, H⟩ := H
 replace H : (some (t222, t221, t223)) = some (r1, r2, r3) := H
 have A4 := Aside0.mk A40
 clear A40
 simp only [Option.some.injEq, Prod.mk.injEq] at H
 obtain ⟨rfl, rfl, rfl⟩ := H
 obtain ⟨Ao1001, co1001, eo1001⟩ := Kd.R_slice HO0_10.out
 subst eo1001
 obtain ⟨Ao1002, co1002, eo1002⟩ := Kd.R_slice HO0_11.out
 subst eo1002
 go_enter Try.func11, Try.ntmps11
 go_wp2_with (first | ((with_reducible refine gate_dst (N := 2) rfl ?_); refine box_event ?hg (N := 2) ?hd (cs := #[.int .i64 a0_0, .int .i64 a0_1, .int .i64 a0_2, .int .i64 a0_3, .int .i64 a0_4, .int .i64 a0_5, .int .i64 a0_6, .bool a0_7, .int .i64 a0_8, .bool a0_9, .slice Ao1001 l0_10.length co1001, .slice Ao1002 l0_11.length co1002]) (t := 25) ?hr ?_; (case hd => rfl); (case hg => rfl); (case hr => first | (go_simp; done) | (go_simp; rfl)); intro gb219 hg w1003 hbox hb; have n0_ := Aside0.mk (Kd.R_below (Rh HO0_10) hb); have n1_ := Aside0.mk (Kd.R_below (Rh HO0_11) hb); have n2_ := Aside0.mk (Kept.below (S := (fun k_ => P0_10_ k_ ∨ P0_11_ k_)) (by repeat (first | (with_reducible first | exact HK.out | apply Kept.alloc | apply Kept.drewN | apply Kept.drew) | exact HK.out)) hb); have n3_ := Aside0.mk (below_step wB hb); have n4_ := Aside0.mk (hbox); have n5_ := Aside0.mk ((by rw [hg]; exact (by first | exact HK.out.1 | exact (show Kept w _ (fun k_ => P0_10_ k_ ∨ P0_11_ k_) from by repeat (first | (with_reducible first | exact HK.out | apply Kept.alloc | apply Kept.drewN | apply Kept.drew) | exact HK.out)).1) : w.heap.size ≤ gb219)); have n6_ := Aside0.mk ((by rw [hg]; exact (below_size wB) : w0.heap.size ≤ gb219)); clear HO0_10; clear HO0_11; clear HK; clear HB; have HO0_10 := n0_; have HO0_11 := n1_; have HK := n2_; have HB := n3_; have BK219 := n4_; have GW219 := n5_; have GE219 := n6_; clear n0_ n1_ n2_ n3_ n4_ n5_ n6_; clear hb hbox hg; obtain ⟨⟨hcz1004_0, hcz1004_1, hcz1004_2, hcz1004_3, hcz1004_4, hcz1004_5, hcz1004_6, hcz1004_7, hcz1004_8, hcz1004_9, hcz1004_10, hcz1004_11⟩, hfz1004_0, hfz1004_1, hfz1004_2, hfz1004_3, hfz1004_4, hfz1004_5, hfz1004_6, hfz1004_7, hfz1004_8, hfz1004_9, hfz1004_10, hfz1004_11⟩ := cells12 BK219.out) | ((with_reducible refine gate_callee (f := 34) rfl ?_); refine goesL_ (some 8) rfl rfl Try.func34 (by kernel_rfl) rfl #[.slice Ao1001 l0_10.length co1001, .int .i64 a1] rfl wT ?_; (with_reducible refine (laws_markStretchS.calls k (fun k_ => some k_ = (.slice Ao1001 l0_10.length co1001 : Value).ownBlock) (.slice Ao1001 l0_10.length co1001) l0_10 a1 t220 t221 w0 _ ?side1 ?side2 A3.out).mono ?_); (case side1 => repeat (first | (with_reducible first | exact HB.out | apply below_alloc | apply pw_below_drewN | apply below_drew1 | refine below_set ?_ GE219.out) | exact HB.out)); (case side2 => exact Kd.R_tight rfl HO0_10.out); rintro e w1005 ⟨rfl, hy0, hb, hkp⟩; refine ⟨_, rfl, ?_⟩; have n0_ := Aside0.mk (Kd.R_reok rfl hy0 (fun k_ e_ => HO0_10.out.1 k_ e_)); have n1_ := Aside0.mk (Kd.R_mono (ok' := fun k_ => ((P0_10_ k_ ∨ P0_11_ k_) ∨ w.heap.size ≤ k_)) (Kd.R_keptB ((Kd.R_apart' HO0_11.out (Kd.R_typed HO0_10.out) (by decide))) hkp (fun k_ hk_ hs_ => (hk_.2) hs_)) (fun k_ hk_ => hk_.1.1)); have n2_ := Aside0.mk (blk_kept (Bh BK219) hkp (fun hs_ => (fun e_ => (Kd.R_ne HO0_10.out BK219.out (by decide)) e_) hs_)); have n3_ := Aside0.mk (Kept.then_ (S := (fun k_ => P0_10_ k_ ∨ P0_11_ k_)) (by repeat (first | (with_reducible first | exact HK.out | apply Kept.alloc | apply Kept.drewN | apply Kept.drew | refine Kept.setCell ?_ (.inr GW219.out) _) | exact HK.out)) hkp (fun k_ hs_ => (fun e_ => (HO0_10.out.1 k_ e_.symm)) hs_)); have n4_ := Aside0.mk (hb); clear HO0_10; clear HO0_11; clear BK219; clear HK; clear HB; have HO0_10 := n0_; have HO0_11 := n1_; have BK219 := n2_; have HK := n3_; have HB := n4_; clear n0_ n1_ n2_ n3_ n4_; (try clear hb); (try clear hkp); (try clear hy0); obtain ⟨⟨hcz1006_0, hcz1006_1, hcz1006_2, hcz1006_3, hcz1006_4, hcz1006_5, hcz1006_6, hcz1006_7, hcz1006_8, hcz1006_9, hcz1006_10, hcz1006_11⟩, hfz1006_0, hfz1006_1, hfz1006_2, hfz1006_3, hfz1006_4, hfz1006_5, hfz1006_6, hfz1006_7, hfz1006_8, hfz1006_9, hfz1006_10, hfz1006_11⟩ := cells12 BK219.out) | ((with_reducible refine gate_callee (f := 10) rfl ?_); refine goesL_ (some 12) rfl rfl Try.func10 (by kernel_rfl) rfl #[.slice Ao1002 l0_11.length co1002, .int .i64 t220] rfl wT ?_; (with_reducible refine (laws_markByteS.calls k (fun k_ => some k_ = (.slice Ao1002 l0_11.length co1002 : Value).ownBlock) (.slice Ao1002 l0_11.length co1002) l0_11 t220 t222 t223 w0 _ ?side1 ?side2 A4.out).mono ?_); (case side1 => repeat (first | (with_reducible first | exact HB.out | apply below_alloc | apply pw_below_drewN | apply below_drew1 | refine below_set ?_ GE219.out) | exact HB.out)); (case side2 => exact Kd.R_tight rfl HO0_11.out); rintro e w1007 ⟨rfl, hy0, hb, hkp⟩; refine ⟨_, rfl, ?_⟩; have n0_ := Aside0.mk (Kd.R_mono (ok' := fun k_ => ((P0_10_ k_ ∨ P0_11_ k_) ∨ w.heap.size ≤ k_)) (Kd.R_keptB ((Kd.R_apart' HO0_10.out (Kd.R_typed HO0_11.out) (by decide))) hkp (fun k_ hk_ hs_ => (hk_.2) hs_)) (fun k_ hk_ => hk_.1.1)); have n1_ := Aside0.mk (Kd.R_reok rfl hy0 (fun k_ e_ => HO0_11.out.1 k_ e_)); have n2_ := Aside0.mk (blk_kept (Bh BK219) hkp (fun hs_ => (fun e_ => (Kd.R_ne HO0_11.out BK219.out (by decide)) e_) hs_)); have n3_ := Aside0.mk (Kept.then_ (S := (fun k_ => P0_10_ k_ ∨ P0_11_ k_)) (by repeat (first | (with_reducible first | exact HK.out | apply Kept.alloc | apply Kept.drewN | apply Kept.drew | refine Kept.setCell ?_ (.inr GW219.out) _) | exact HK.out)) hkp (fun k_ hs_ => (fun e_ => (HO0_11.out.1 k_ e_.symm)) hs_)); have n4_ := Aside0.mk (hb); clear HO0_10; clear HO0_11; clear BK219; clear HK; clear HB; have HO0_10 := n0_; have HO0_11 := n1_; have BK219 := n2_; have HK := n3_; have HB := n4_; clear n0_ n1_ n2_ n3_ n4_; (try clear hb); (try clear hkp); (try clear hy0)))
 go_ret
 exact ⟨by first | rfl | (simp [errW_none, errW_some] <;> rfl) | (simp [*, errW_none, errW_some] <;> rfl), by (with_reducible repeat (first | apply Kd.R_alloc | apply Kd.R_drewN | apply Kd.R_drew)); exact HO0_10.out, by (with_reducible repeat (first | apply Kd.R_alloc | apply Kd.R_drewN | apply Kd.R_drew)); exact HO0_11.out, wB, by repeat (first | (with_reducible first | exact HK.out | apply Kept.alloc | apply Kept.drewN | apply Kept.drew | refine Kept.setCell ?_ (.inr GW219.out) _) | exact HK.out)⟩

/-! ### laws_heldStretchS: function 35 -/
def laws_heldStretchS.l0 : Nat → List (S60) → Int → Int → Option (Int)
  | 0, _, _, _ => none
  | k + 1, x0, x1, x5 => if x5 < (x0.length : Int) then (if 0 ≤ x5 then (if ((rd_T60 x0 x5).f0) = x1 then (if ((rd_T60 x0 x5).f1) = (wrap64 (x1 + 1)) then (laws_heldStretchS.l0 k x0 (wrap64 ((wrap64 (x1 + 1)) + 1)) (wrap64 (x5 + 1))) else (some (-1))) else (some (-1))) else (none)) else (some x1)
def laws_heldStretchS.f (k : Nat) (l0 : List (S60)) (a1 : Int) : Option (Int) := laws_heldStretchS.l0 k l0 a1 0
theorem laws_heldStretchS.mono_l : ∀ k, (∀ y0 y1 y2, LeO (laws_heldStretchS.l0 k y0 y1 y2) (laws_heldStretchS.l0 (k + 1) y0 y1 y2))
  | 0 => fun _ _ _ r h => by simp [laws_heldStretchS.l0] at h
  | k + 1 => by
    have ih0 := laws_heldStretchS.mono_l k
    · intro y0 y1 y2
      unfold laws_heldStretchS.l0
      repeat' first
      | (with_reducible exact ih0 _ _ _)
      | (with_reducible exact LeO.refl _)
      | (with_reducible exact LeO.none _)
      | (with_reducible refine LeO.ite ?_ ?_)
      | (with_reducible refine LeO.bind ?_ (fun _ => ?_))
      | exact ih0 _ _ _
      | exact LeO.none _
      | refine LeO.ite ?_ ?_
      | refine LeO.bind ?_ (fun _ => ?_)
theorem laws_heldStretchS.mono : ∀ a0 a1 k, LeO (laws_heldStretchS.f k a0 a1) (laws_heldStretchS.f (k + 1) a0 a1) := by
 intro a0 a1 k
 have ih0 := laws_heldStretchS.mono_l k
 unfold laws_heldStretchS.f
 repeat' first
     | (with_reducible exact ih0 _ _ _)
     | (with_reducible exact LeO.refl _)
     | (with_reducible exact LeO.none _)
     | (with_reducible refine LeO.ite ?_ ?_)
     | (with_reducible refine LeO.bind ?_ (fun _ => ?_))
     | exact ih0 _ _ _
     | exact LeO.none _
     | refine LeO.ite ?_ ?_
     | refine LeO.bind ?_ (fun _ => ?_)
set_option maxHeartbeats 60000000 in
set_option maxRecDepth 100000 in
theorem laws_heldStretchS.calls (k : Nat) (A0 : Option Addr) (c0 : Nat) (l0 : List (S60)) (a1 : Int) (r : Int) (w : World) (hr0 : Kd.C k60 w A0 l0.length l0) (hc0 : l0.length ≤ c0) (h : laws_heldStretchS.f k l0 a1 = some r) :
 Calls Try.prog 35 #[.slice A0 l0.length c0, .int .i64 a1] w fun e w' => e = .returned (.int .i64 r) ∧ Drawn0 w w' := by
 have HR0 := Aside0.mk hr0
 have HC0 := Aside0.mk hc0
 clear hr0 hc0
 have H : (laws_heldStretchS.l0 k l0 a1 0) = some r := h
 clear h
 have H' := Aside0.mk H
 clear H
 go_enter Try.func35, Try.ntmps35
 go_wp2
 go_loopg [1, 5] k (fun kq v1 v5 w' => ∃ (x1_1 : Int) (x5_1 : Int), v1 = .int .i64 x1_1 ∧ v5 = .int .i64 x5_1 ∧ Aside0 (laws_heldStretchS.l0 kq l0 x1_1 x5_1 = some r) ∧ Aside0 (kq ≤ k) ∧ Drawn0 w w')
 case atStart => exact ⟨(a1), (0), (by first | rfl | (simp; done) | (simp [*]; done)), (by first | rfl | (simp; done) | (simp [*]; done)), H', ⟨Nat.le_refl _⟩, by repeat (first | exact Drawn0.refl _ | apply Drawn0.step)⟩
 case round => (
 clear H'
 obtain ⟨x1_1, x5_1, rfl, rfl, HA, HK1, ⟨m1, rfl⟩⟩ := hrel
 cases gk with
 | zero => exact absurd HA.out (by simp [laws_heldStretchS.l0])
 | succ k1 => {
 have H := HA.out
 clear HA
 simp only [laws_heldStretchS.l0] at H
 by_cases c1001 : x5_1 < (l0.length : Int)
 rw [if_pos c1001] at H
 have c1001b0 : decide (x5_1 < (l0.length : Int)) = true := decide_eq_true c1001
 clear c1001
 by_cases c1002 : 0 ≤ x5_1
 rw [if_pos c1002] at H
 have c1002b0 : decide (0 ≤ x5_1) = true := decide_eq_true c1002
 clear c1002
 by_cases c1003 : ((rd_T60 l0 x5_1).f0) = x1_1
 rw [if_pos c1003] at H
 have c1003b0 : (((rd_T60 l0 x5_1).f0) == x1_1) = true := beq_iff_eq.mpr c1003
 have c1003b1 : (((rd_T60 l0 x5_1).f0) != x1_1) = false := bne_eq_false_iff_eq.mpr c1003
 clear c1003
 by_cases c1004 : ((rd_T60 l0 x5_1).f1) = (wrap64 (x1_1 + 1))
 rw [if_pos c1004] at H
 have c1004b0 : (((rd_T60 l0 x5_1).f1) == (wrap64 (x1_1 + 1))) = true := beq_iff_eq.mpr c1004
 have c1004b1 : (((rd_T60 l0 x5_1).f1) != (wrap64 (x1_1 + 1))) = false := bne_eq_false_iff_eq.mpr c1004
 clear c1004
 have H' := Aside0.mk H
 clear H
 rotate_left
 rw [if_neg c1004] at H
 have c1004b0 : (((rd_T60 l0 x5_1).f1) == (wrap64 (x1_1 + 1))) = false := beq_eq_false_iff_ne.mpr c1004
 have c1004b1 : (((rd_T60 l0 x5_1).f1) != (wrap64 (x1_1 + 1))) = true := bne_iff_ne.mpr c1004
 obtain rfl := Option.some.inj H
 rotate_left
 rw [if_neg c1003] at H
 have c1003b0 : (((rd_T60 l0 x5_1).f0) == x1_1) = false := beq_eq_false_iff_ne.mpr c1003
 have c1003b1 : (((rd_T60 l0 x5_1).f0) != x1_1) = true := bne_iff_ne.mpr c1003
 obtain rfl := Option.some.inj H
 rotate_left
 rw [if_neg c1002] at H
 exact absurd H (by simp)
 rw [if_neg c1001] at H
 have c1001b0 : decide (x5_1 < (l0.length : Int)) = false := decide_eq_false c1001
 clear c1001
 obtain rfl := Option.some.inj H
 rotate_left
 iterate 3 (
 focus (
 have p224 : 0 ≤ (x5_1 : Int) := of_decide_eq_true (by first | (with_reducible assumption) | assumption)
 have q224 : x5_1 < (l0.length : Int) := of_decide_eq_true (by first | (with_reducible assumption) | assumption)
 obtain ⟨ad224, e224, hx224_0, hx224_1⟩ := at_T60 HR0.out x5_1 p224 q224
 cases e224
 replace p224 := eq_true p224
 replace q224 := eq_true q224
 )
 rotate_left
 )
 rotate_right 3
 iterate 2 (
 focus (
 have p225 : 0 ≤ (x5_1 : Int) := of_decide_eq_true (by first | (with_reducible assumption) | assumption)
 have q225 : x5_1 < (l0.length : Int) := of_decide_eq_true (by first | (with_reducible assumption) | assumption)
 obtain ⟨ad225, e225, hx225_0, hx225_1⟩ := at_T60 HR0.out x5_1 p225 q225
 obtain rfl : ad224 = ad225 := (by injection e225)
 replace p225 := eq_true p225
 replace q225 := eq_true q225
 go_wp2
 )
 rotate_left
 )
 rotate_right 2
 {
 go_roundg k1
 case measure => have := HK1.out; omega
 case rel => exact ⟨(wrap64 ((wrap64 (x1_1 + 1)) + 1)), (wrap64 (x5_1 + 1)), (by first | rfl | (simp; done) | (simp [*]; done)), (by first | rfl | (simp; done) | (simp [*]; done)), H', ⟨by have := HK1.out; omega⟩, by repeat (first | exact Drawn0.refl _ | apply Drawn0.step)⟩
 }
 {
 go_ret
 exact ⟨by first | rfl | (simp; done) | (simp [*]; done), by repeat (first | exact Drawn0.refl _ | apply Drawn0.step)⟩
 }
 {
 go_wp2
 go_ret
 exact ⟨by first | rfl | (simp; done) | (simp [*]; done), by repeat (first | exact Drawn0.refl _ | apply Drawn0.step)⟩
 }
 {
 go_wp2
 go_ret
 exact ⟨by first | rfl | (simp; done) | (simp [*]; done), by repeat (first | exact Drawn0.refl _ | apply Drawn0.step)⟩
 }
 }
 )

/-! ### laws_heldByteS: function 36 -/
def laws_heldByteS.l0 : Nat → List Int → Int → Int → Option (Int)
  | 0, _, _, _ => none
  | k + 1, x0, x1, x5 => if x5 < (x0.length : Int) then (if 0 ≤ x5 then (if (rd x0 x5) = ((x1) % 256) then (laws_heldByteS.l0 k x0 (wrap64 (x1 + 1)) (wrap64 (x5 + 1))) else (some (-1))) else (none)) else (some x1)
def laws_heldByteS.f (k : Nat) (l0 : List Int) (a1 : Int) : Option (Int) := laws_heldByteS.l0 k l0 a1 0
theorem laws_heldByteS.mono_l : ∀ k, (∀ y0 y1 y2, LeO (laws_heldByteS.l0 k y0 y1 y2) (laws_heldByteS.l0 (k + 1) y0 y1 y2))
  | 0 => fun _ _ _ r h => by simp [laws_heldByteS.l0] at h
  | k + 1 => by
    have ih0 := laws_heldByteS.mono_l k
    · intro y0 y1 y2
      unfold laws_heldByteS.l0
      repeat' first
      | (with_reducible exact ih0 _ _ _)
      | (with_reducible exact LeO.refl _)
      | (with_reducible exact LeO.none _)
      | (with_reducible refine LeO.ite ?_ ?_)
      | (with_reducible refine LeO.bind ?_ (fun _ => ?_))
      | exact ih0 _ _ _
      | exact LeO.none _
      | refine LeO.ite ?_ ?_
      | refine LeO.bind ?_ (fun _ => ?_)
theorem laws_heldByteS.mono : ∀ a0 a1 k, LeO (laws_heldByteS.f k a0 a1) (laws_heldByteS.f (k + 1) a0 a1) := by
 intro a0 a1 k
 have ih0 := laws_heldByteS.mono_l k
 unfold laws_heldByteS.f
 repeat' first
     | (with_reducible exact ih0 _ _ _)
     | (with_reducible exact LeO.refl _)
     | (with_reducible exact LeO.none _)
     | (with_reducible refine LeO.ite ?_ ?_)
     | (with_reducible refine LeO.bind ?_ (fun _ => ?_))
     | exact ih0 _ _ _
     | exact LeO.none _
     | refine LeO.ite ?_ ?_
     | refine LeO.bind ?_ (fun _ => ?_)
set_option maxHeartbeats 60000000 in
set_option maxRecDepth 100000 in
theorem laws_heldByteS.calls (k : Nat) (A0 : Option Addr) (c0 : Nat) (l0 : List Int) (a1 : Int) (r : Int) (w : World) (hr0 : Kd.C (Kd.int .u8) w A0 l0.length l0) (hc0 : l0.length ≤ c0) (h : laws_heldByteS.f k l0 a1 = some r) :
 Calls Try.prog 36 #[.slice A0 l0.length c0, .int .i64 a1] w fun e w' => e = .returned (.int .i64 r) ∧ Drawn0 w w' := by
 have HR0 := Aside0.mk hr0
 have HC0 := Aside0.mk hc0
 clear hr0 hc0
 have H : (laws_heldByteS.l0 k l0 a1 0) = some r := h
 clear h
 have H' := Aside0.mk H
 clear H
 go_enter Try.func36, Try.ntmps36
 go_wp2
 go_loopg [1, 5] k (fun kq v1 v5 w' => ∃ (x1_1 : Int) (x5_1 : Int), v1 = .int .i64 x1_1 ∧ v5 = .int .i64 x5_1 ∧ Aside0 (laws_heldByteS.l0 kq l0 x1_1 x5_1 = some r) ∧ Aside0 (kq ≤ k) ∧ Drawn0 w w')
 case atStart => exact ⟨(a1), (0), (by first | rfl | (simp; done) | (simp [*]; done)), (by first | rfl | (simp; done) | (simp [*]; done)), H', ⟨Nat.le_refl _⟩, by repeat (first | exact Drawn0.refl _ | apply Drawn0.step)⟩
 case round => (
 clear H'
 obtain ⟨x1_1, x5_1, rfl, rfl, HA, HK1, ⟨m1, rfl⟩⟩ := hrel
 cases gk with
 | zero => exact absurd HA.out (by simp [laws_heldByteS.l0])
 | succ k1 => {
 have H := HA.out
 clear HA
 simp only [laws_heldByteS.l0] at H
 by_cases c1001 : x5_1 < (l0.length : Int)
 {
 rw [if_pos c1001] at H
 have c1001b0 : decide (x5_1 < (l0.length : Int)) = true := decide_eq_true c1001
 clear c1001
 by_cases c1002 : 0 ≤ x5_1
 {
 rw [if_pos c1002] at H
 have c1002b0 : decide (0 ≤ x5_1) = true := decide_eq_true c1002
 clear c1002
 by_cases c1003 : (rd l0 x5_1) = ((x1_1) % 256)
 {
 rw [if_pos c1003] at H
 have c1003b0 : ((rd l0 x5_1) == ((x1_1) % 256)) = true := beq_iff_eq.mpr c1003
 have c1003b1 : ((rd l0 x5_1) != ((x1_1) % 256)) = false := bne_eq_false_iff_eq.mpr c1003
 clear c1003
 have H' := Aside0.mk H
 clear H
 have p226 : 0 ≤ (x5_1 : Int) := of_decide_eq_true (by first | (with_reducible assumption) | assumption)
 have q226 : x5_1 < (l0.length : Int) := of_decide_eq_true (by first | (with_reducible assumption) | assumption)
 obtain ⟨ad226, e226, hx226_0⟩ := Kd.at_int HR0.out x5_1 p226 q226
 cases e226
 replace p226 := eq_true p226
 replace q226 := eq_true q226
 go_wp2
 go_roundg k1
 case measure => have := HK1.out; omega
 case rel => exact ⟨(wrap64 (x1_1 + 1)), (wrap64 (x5_1 + 1)), (by first | rfl | (simp; done) | (simp [*]; done)), (by first | rfl | (simp; done) | (simp [*]; done)), H', ⟨by have := HK1.out; omega⟩, by repeat (first | exact Drawn0.refl _ | apply Drawn0.step)⟩
 }
 {
 rw [if_neg c1003] at H
 have c1003b0 : ((rd l0 x5_1) == ((x1_1) % 256)) = false := beq_eq_false_iff_ne.mpr c1003
 have c1003b1 : ((rd l0 x5_1) != ((x1_1) % 256)) = true := bne_iff_ne.mpr c1003
 obtain rfl := Option.some.inj H
 have p226 : 0 ≤ (x5_1 : Int) := of_decide_eq_true (by first | (with_reducible assumption) | assumption)
 have q226 : x5_1 < (l0.length : Int) := of_decide_eq_true (by first | (with_reducible assumption) | assumption)
 obtain ⟨ad226, e226, hx226_0⟩ := Kd.at_int HR0.out x5_1 p226 q226
 cases e226
 replace p226 := eq_true p226
 replace q226 := eq_true q226
 go_wp2
 go_ret
 exact ⟨by first | rfl | (simp; done) | (simp [*]; done), by repeat (first | exact Drawn0.refl _ | apply Drawn0.step)⟩
 }
 }
 {
 rw [if_neg c1002] at H
 exact absurd H (by simp)
 }
 }
 {
 rw [if_neg c1001] at H
 have c1001b0 : decide (x5_1 < (l0.length : Int)) = false := decide_eq_false c1001
 clear c1001
 obtain rfl := Option.some.inj H
 go_wp2
 go_ret
 exact ⟨by first | rfl | (simp; done) | (simp [*]; done), by repeat (first | exact Drawn0.refl _ | apply Drawn0.step)⟩
 }
 }
 )

/-! ### laws_heldSegment: function 12 -/
def laws_heldSegment.f (k : Nat) (a0_0 : Int) (a0_1 : Int) (a0_2 : Int) (a0_3 : Int) (a0_4 : Int) (a0_5 : Int) (a0_6 : Int) (a0_7 : Bool) (a0_8 : Int) (a0_9 : Bool) (l0_10 : List (S60)) (l0_11 : List Int) (a1 : Int) : Option (Int) := (laws_heldStretchS.f k l0_10 a1).bind fun t228 => (if t228 < 0 then (some (-1)) else ((laws_heldByteS.f k l0_11 t228).bind fun t229 => (if t229 < 0 then (some (-1)) else (some t229))))
theorem laws_heldSegment.mono : ∀ a0 a1 a2 a3 a4 a5 a6 a7 a8 a9 a10 a11 a12 k, LeO (laws_heldSegment.f k a0 a1 a2 a3 a4 a5 a6 a7 a8 a9 a10 a11 a12) (laws_heldSegment.f (k + 1) a0 a1 a2 a3 a4 a5 a6 a7 a8 a9 a10 a11 a12) := by
 intro a0 a1 a2 a3 a4 a5 a6 a7 a8 a9 a10 a11 a12 k
 unfold laws_heldSegment.f
 repeat' first
     | (with_reducible exact laws_heldByteS.mono _ _ _)
     | (with_reducible exact laws_heldStretchS.mono _ _ _)
     | (with_reducible exact LeO.refl _)
     | (with_reducible exact LeO.none _)
     | (with_reducible refine LeO.ite ?_ ?_)
     | (with_reducible refine LeO.bind ?_ (fun _ => ?_))
     | exact laws_heldByteS.mono _ _ _
     | exact laws_heldStretchS.mono _ _ _
     | exact LeO.none _
     | refine LeO.ite ?_ ?_
     | refine LeO.bind ?_ (fun _ => ?_)
set_option maxHeartbeats 60000000 in
set_option maxRecDepth 100000 in
theorem laws_heldSegment.calls (k : Nat) (a0_0 : Int) (a0_1 : Int) (a0_2 : Int) (a0_3 : Int) (a0_4 : Int) (a0_5 : Int) (a0_6 : Int) (a0_7 : Bool) (a0_8 : Int) (a0_9 : Bool) (A0_10 : Option Addr) (c0_10 : Nat) (l0_10 : List (S60)) (A0_11 : Option Addr) (c0_11 : Nat) (l0_11 : List Int) (a1 : Int) (r : Int) (w : World) (hr0_10 : Kd.C k60 w A0_10 l0_10.length l0_10) (hc0_10 : l0_10.length ≤ c0_10) (hr0_11 : Kd.C (Kd.int .u8) w A0_11 l0_11.length l0_11) (hc0_11 : l0_11.length ≤ c0_11) (h : laws_heldSegment.f k a0_0 a0_1 a0_2 a0_3 a0_4 a0_5 a0_6 a0_7 a0_8 a0_9 l0_10 l0_11 a1 = some r) :
 Calls Try.prog 12 #[.agg #[.int .i64 a0_0, .int .i64 a0_1, .int .i64 a0_2, .int .i64 a0_3, .int .i64 a0_4, .int .i64 a0_5, .int .i64 a0_6, .bool a0_7, .int .i64 a0_8, .bool a0_9, .slice A0_10 l0_10.length c0_10, .slice A0_11 l0_11.length c0_11], .int .i64 a1] w fun e w' => e = .returned (.int .i64 r) ∧ Below w.heap.size w w' := by
 have hu25 := Try.underlying25
 have HR0_10 := Aside0.mk hr0_10
 have HC0_10 := Aside0.mk hc0_10
 clear hr0_10 hc0_10
 have HR0_11 := Aside0.mk hr0_11
 have HC0_11 := Aside0.mk hc0_11
 clear hr0_11 hc0_11
 have HB := Aside0.mk (Below.refl w.heap.size w)
 have H : ((laws_heldStretchS.f k l0_10 a1).bind fun t228 => (if t228 < 0 then (some (-1)) else ((laws_heldByteS.f k l0_11 t228).bind fun t229 => (if t229 < 0 then (some (-1)) else (some t229))))) = some r := h
 clear h
 replace H := Option.bind_eq_some_iff.mp H
 obtain ⟨t228, A30, H⟩ := H
 replace H : (if t228 < 0 then (some (-1)) else ((laws_heldByteS.f k l0_11 t228).bind fun t229 => (if t229 < 0 then (some (-1)) else (some t229)))) = some r := H
 have A3 := Aside0.mk A30
 clear A30
 by_cases c4 : t228 < 0
 rw [if_pos c4] at H
 have c4b0 : decide (t228 < 0) = true := decide_eq_true c4
 clear c4
 obtain rfl := Option.some.inj H
 rotate_left
 rw [if_neg c4] at H
 have c4b0 : decide (t228 < 0) = false := decide_eq_false c4
 clear c4
 replace H := Option.bind_eq_some_iff.mp H
 obtain ⟨t229, A50, H⟩ := H
 replace H : (if t229 < 0 then (some (-1)) else (some t229)) = some r := H
 have A5 := Aside0.mk A50
 clear A50
 by_cases c6 : t229 < 0
 rw [if_pos c6] at H
 have c6b0 : decide (t229 < 0) = true := decide_eq_true c6
 clear c6
 obtain rfl := Option.some.inj H
 rotate_left
 rw [if_neg c6] at H
 have c6b0 : decide (t229 < 0) = false := decide_eq_false c6
 clear c6
 obtain rfl := Option.some.inj H
 rotate_left
 all_goals (
 go_enter Try.func12, Try.ntmps12
 go_wp2_with (first | ((with_reducible refine gate_dst (N := 2) rfl ?_); refine box_event ?hg (N := 2) ?hd (cs := #[.int .i64 a0_0, .int .i64 a0_1, .int .i64 a0_2, .int .i64 a0_3, .int .i64 a0_4, .int .i64 a0_5, .int .i64 a0_6, .bool a0_7, .int .i64 a0_8, .bool a0_9, .slice A0_10 l0_10.length c0_10, .slice A0_11 l0_11.length c0_11]) (t := 25) ?hr ?_; (case hd => rfl); (case hg => rfl); (case hr => first | (go_simp; done) | (go_simp; rfl)); intro gb227 hg w1001 hbox hb; have n0_ := Aside0.mk (below_step wB hb); have n1_ := Aside0.mk (hbox); have n2_ := Aside0.mk ((by rw [hg]; exact (below_size wB) : w.heap.size ≤ gb227)); have n3_ := Aside0.mk ((by rw [hg]; exact (below_size wB) : w.heap.size ≤ gb227)); clear HB; have HB := n0_; have BK227 := n1_; have GW227 := n2_; have GE227 := n3_; clear n0_ n1_ n2_ n3_; clear hb hbox hg; obtain ⟨⟨hcz1002_0, hcz1002_1, hcz1002_2, hcz1002_3, hcz1002_4, hcz1002_5, hcz1002_6, hcz1002_7, hcz1002_8, hcz1002_9, hcz1002_10, hcz1002_11⟩, hfz1002_0, hfz1002_1, hfz1002_2, hfz1002_3, hfz1002_4, hfz1002_5, hfz1002_6, hfz1002_7, hfz1002_8, hfz1002_9, hfz1002_10, hfz1002_11⟩ := cells12 BK227.out) | ((with_reducible refine gate_callee (f := 35) rfl ?_); refine goesL_ (some 8) rfl rfl Try.func35 (by kernel_rfl) rfl #[.slice A0_10 l0_10.length c0_10, .int .i64 a1] rfl wT ?_; (with_reducible refine (laws_heldStretchS.calls k _ _ l0_10 a1 t228 _ ?side1 ?side2 A3.out).mono ?_); (case side1 => exact Kd.C_below HR0_10.out wB); (case side2 => exact HC0_10.out); rintro e w' ⟨rfl, ⟨nd, rfl⟩⟩; refine ⟨_, rfl, ?_⟩) | ((with_reducible refine gate_callee (f := 36) rfl ?_); refine goesL_ (some 14) rfl rfl Try.func36 (by kernel_rfl) rfl #[.slice A0_11 l0_11.length c0_11, .int .i64 t228] rfl wT ?_; (with_reducible refine (laws_heldByteS.calls k _ _ l0_11 t228 t229 _ ?side1 ?side2 A5.out).mono ?_); (case side1 => repeat (first | exact (Kd.C_below HR0_11.out wB) | (with_reducible refine Kd.C_alloc ?_ _) | (with_reducible refine Kd.C_drewN ?_ _) | (with_reducible refine Kd.C_drew ?_))); (case side2 => exact HC0_11.out); rintro e w' ⟨rfl, ⟨nd, rfl⟩⟩; refine ⟨_, rfl, ?_⟩))
 go_ret
 exact ⟨by first | rfl | (simp [errW_none, errW_some] <;> rfl) | (simp [*, errW_none, errW_some] <;> rfl), wB⟩
 )

end Go.Proofs.Ytfllcmeakcbiaaa.PFnExactDecodeSegment
