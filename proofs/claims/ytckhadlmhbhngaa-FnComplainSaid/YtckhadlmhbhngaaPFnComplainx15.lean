-- Written for this claim by a program of this session (wip/mkprint.py: the print, turned at a few places). Not trusted: Lean checks it.
import Derived.Test.YtckhadlmhbhngaaPFnComplainx0
import Derived.Test.YtckhadlmhbhngaaPFnComplainx1
import Derived.Test.YtckhadlmhbhngaaPFnComplainx3
namespace Go.Proofs.Ytckhadlmhbhngaa.PFnComplain
open Go.RowKit Go.Proofs.YtckhadlmhbhngaaW.PrintWords Go.Proofs.YtckhadlmhbhngaaW.PrintLast Go.Proofs.YtckhadlmhbhngaaW.PrintMore
attribute [local go_sem] max2_int min2_int max_two min_two max_three min_three max_four min_four   -- for this text's walks alone
set_option linter.unusedVariables false
set_option linter.unusedSimpArgs false

/-! ### impl_EncodeIcmp: function 64 -/
def impl_EncodeIcmp.j0 : Nat → Bool → Int → Int → Int → List Int → Option (List Int × Int)
  | 0, _, _, _, _, _ => none
  | k + 1, ah, ac, ad, ae, aa => if ah = true then (none) else (if (aa.length : Int) > 65000 then (none) else ((impl_put.f k (([(ac) % 256, (ad) % 256, 0, 0] : List Int)) 4 ae).bind fun af => (if af.length + aa.length < 140737488355328 then ((some (af ++ aa : List Int)).bind fun ab => ((impl_Checksum.f k ab).bind fun ag => (if 2 < (ab.length : Int) then (if 3 < (ab.length : Int) then (some (((ab.set (2 : Int).toNat ((ag / 256) % 256)).set (3 : Int).toNat ((ag) % 256)), 0)) else (none)) else (none)))) else (none))))
def impl_EncodeIcmp.f (k : Nat) (aa : Int) (ab : Int) (ac : Int) (ad : List Int) : Option (List Int × Int) := if aa < 0 then (impl_EncodeIcmp.j0 k true aa ab ac ad) else (if aa > 255 then (impl_EncodeIcmp.j0 k true aa ab ac ad) else (if ab < 0 then (impl_EncodeIcmp.j0 k true aa ab ac ad) else (if ab > 255 then (impl_EncodeIcmp.j0 k true aa ab ac ad) else (if ac < 0 then (impl_EncodeIcmp.j0 k true aa ab ac ad) else (impl_EncodeIcmp.j0 k (decide (ac > 4294967295)) aa ab ac ad)))))
theorem impl_EncodeIcmp.mono_l : ∀ k, (∀ y0 y1 y2 y3 y4, LeO (impl_EncodeIcmp.j0 k y0 y1 y2 y3 y4) (impl_EncodeIcmp.j0 (k + 1) y0 y1 y2 y3 y4))
  | 0 => fun _ _ _ _ _ r h => by simp [impl_EncodeIcmp.j0] at h
  | k + 1 => by
    have ih0 := impl_EncodeIcmp.mono_l k
    · intro y0 y1 y2 y3 y4
      unfold impl_EncodeIcmp.j0
      repeat' first
      | (with_reducible exact ih0 _ _ _ _ _)
      | (with_reducible exact impl_Checksum.mono _ _)
      | (with_reducible exact impl_put.mono _ _ _ _)
      | (with_reducible exact LeO.refl _)
      | (with_reducible exact LeO.none _)
      | (with_reducible refine LeO.ite ?_ ?_)
      | (with_reducible refine LeO.bind ?_ (fun _ => ?_))
      | exact ih0 _ _ _ _ _
      | exact impl_Checksum.mono _ _
      | exact impl_put.mono _ _ _ _
      | exact LeO.none _
      | refine LeO.ite ?_ ?_
      | refine LeO.bind ?_ (fun _ => ?_)
theorem impl_EncodeIcmp.mono : ∀ a0 a1 a2 a3 k, LeO (impl_EncodeIcmp.f k a0 a1 a2 a3) (impl_EncodeIcmp.f (k + 1) a0 a1 a2 a3) := by
 intro a0 a1 a2 a3 k
 have ih0 := impl_EncodeIcmp.mono_l k
 unfold impl_EncodeIcmp.f
 repeat' first
     | (with_reducible exact ih0 _ _ _ _ _)
     | (with_reducible exact impl_Checksum.mono _ _)
     | (with_reducible exact impl_put.mono _ _ _ _)
     | (with_reducible exact LeO.refl _)
     | (with_reducible exact LeO.none _)
     | (with_reducible refine LeO.ite ?_ ?_)
     | (with_reducible refine LeO.bind ?_ (fun _ => ?_))
     | exact ih0 _ _ _ _ _
     | exact impl_Checksum.mono _ _
     | exact impl_put.mono _ _ _ _
     | exact LeO.none _
     | refine LeO.ite ?_ ?_
     | refine LeO.bind ?_ (fun _ => ?_)
def impl_EncodeIcmp.T5 : Bool × List (List Nat × List Nat) := (true, [([], []), ([0], [0]), ([1], [1]), ([], []), ([3], [3]), ([4], [4]), ([2, 5], [2, 5]), ([], []), ([7], [7]), ([6, 8], [6, 8]), ([], []), ([10], [10]), ([9, 11, 9], [9, 11]), ([12, 12, 0, 1, 2, 3, 4, 5, 6, 7, 8, 9, 10, 11, 12], [12])])
def impl_EncodeIcmp.B5 : List Nat := [0, 1, 3, 0, 8, 24, 63, 0, 128, 511, 0, 1024, 4095, 8191]
theorem impl_EncodeIcmp.tab5 : rtab .any (opsOf Try.f64 5) = impl_EncodeIcmp.T5 := by kernel_rfl
theorem impl_EncodeIcmp.bits5 : waitsOk impl_EncodeIcmp.T5.2 impl_EncodeIcmp.B5 = true := by kernel_rfl
set_option maxHeartbeats 60000000 in
set_option maxRecDepth 100000 in
theorem impl_EncodeIcmp.calls (k : Nat) (ad : Int) (ae : Int) (ag : Int) (A0_3 : Option Addr) (a1 : Nat) (af : List Int) (r1 : List Int) (r2 : Int) (w : World) (hr0_3 : Kd.C (Kd.int .u8) w A0_3 af.length af) (hc0_3 : af.length ≤ a1) (h : impl_EncodeIcmp.f k ad ae ag af = some (r1, r2)) :
 Calls Try.prog 64 #[.agg #[.int .i64 ad, .int .i64 ae, .int .i64 ag, .slice A0_3 af.length a1]] w fun e w' => ∃ v0_ : Value, e = .returned (.tuple #[v0_, .int .i64 r2]) ∧ Kd.R (Kd.int .u8) 5 w' w.heap.size (fun _ => True) v0_ r1 ∧ Below w.heap.size w w' := by
 have hu52 := Try.underlying52
 have HR0_3 := Aside0.mk hr0_3
 have bn := Aside0.mk hc0_3
 clear hr0_3 hc0_3
 have HB := Aside0.mk (Below.refl w.heap.size w)
 have H : (if ad < 0 then (impl_EncodeIcmp.j0 k true ad ae ag af) else (if ad > 255 then (impl_EncodeIcmp.j0 k true ad ae ag af) else (if ae < 0 then (impl_EncodeIcmp.j0 k true ad ae ag af) else (if ae > 255 then (impl_EncodeIcmp.j0 k true ad ae ag af) else (if ag < 0 then (impl_EncodeIcmp.j0 k true ad ae ag af) else (impl_EncodeIcmp.j0 k (decide (ag > 4294967295)) ad ae ag af)))))) = some (r1, r2) := h
 clear h
 have bd := Aside0.mk H
 clear H
 go_enter Try.func64, Try.ntmps64
 go_upto_region 1 with (first | ((with_reducible refine gate_dst (N := 1) rfl ?_); refine boxE 1 #[.int .i64 ad, .int .i64 ae, .int .i64 ag, .slice A0_3 af.length a1] 52 ?_; intro ar hg bo hbox hb; have aa := Aside0.mk (hbox); have bh := Aside0.mk ((by rw [hg]; exact (below_size wB) : w.heap.size ≤ ar)); replace HB := Aside0.mk (below_step wB hb); have bi := bh; clear hb hbox hg))
 (try simp only [Act.put, List.setIfInBounds_toArray, List.set_cons_zero, List.set_cons_succ])
 go_cut [33] (fun bl wc => ∃ (kq : Nat) (aU : Bool), bl = .bool aU ∧ Aside0 (impl_EncodeIcmp.j0 kq aU ad ae ag af = some (r1, r2)) ∧ Aside0 (kq ≤ k) ∧ Aside0 (wc.heap[ar]? = some (.cells #[.int .i64 ad, .int .i64 ae, .int .i64 ag, (.slice A0_3 af.length a1)] 52 (0, 0))) ∧ Aside0 (Below w.heap.size w wc))
 case first => (
 have H := bd.out
 clear bd
 by_cases al : ad < 0
 rw [if_pos al] at H
 have c1002b0 : decide (ad < 0) = true := decide_eq_true al
 clear al
 (first | rw [c1002b0] | (simp only [i64_w, i32_w]; rw [c1002b0]) | skip)
 have H' := Aside0.mk H
 clear H
 rotate_left
 rw [if_neg al] at H
 have c1002b0 : decide (ad < 0) = false := decide_eq_false al
 clear al
 (first | rw [c1002b0] | (simp only [i64_w, i32_w]; rw [c1002b0]) | skip)
 by_cases am : ad > 255
 rw [if_pos am] at H
 have c1003b0 : decide (255 < ad) = true := decide_eq_true am
 clear am
 have H' := Aside0.mk H
 clear H
 rotate_left
 rw [if_neg am] at H
 have c1003b0 : decide (255 < ad) = false := decide_eq_false am
 clear am
 by_cases an : ae < 0
 rw [if_pos an] at H
 have c1004b0 : decide (ae < 0) = true := decide_eq_true an
 clear an
 have H' := Aside0.mk H
 clear H
 rotate_left
 rw [if_neg an] at H
 have c1004b0 : decide (ae < 0) = false := decide_eq_false an
 clear an
 by_cases ao : ae > 255
 rw [if_pos ao] at H
 have c1005b0 : decide (255 < ae) = true := decide_eq_true ao
 clear ao
 have H' := Aside0.mk H
 clear H
 rotate_left
 rw [if_neg ao] at H
 have c1005b0 : decide (255 < ae) = false := decide_eq_false ao
 clear ao
 by_cases ap : ag < 0
 rw [if_pos ap] at H
 have c1006b0 : decide (ag < 0) = true := decide_eq_true ap
 clear ap
 have H' := Aside0.mk H
 clear H
 rotate_left
 rw [if_neg ap] at H
 have c1006b0 : decide (ag < 0) = false := decide_eq_false ap
 clear ap
 have H' := Aside0.mk H
 clear H
 rotate_left
 all_goals (
 obtain ⟨⟨aI, aJ, aK, aM⟩, aN, aP, aQ, aT⟩ := cells4 aa.out
 go_wp2
 go_meet
 )
 iterate 5 (
 focus (
 case rel => exact ⟨_, (true), eS, H', ⟨by first | omega | exact Nat.le_refl _⟩, ⟨Bh aa⟩, ⟨wB⟩⟩
 )
 )
 {
 case rel => exact ⟨_, (decide (ag > 4294967295)), eS, H', ⟨by first | omega | exact Nat.le_refl _⟩, ⟨Bh aa⟩, ⟨wB⟩⟩
 }
 )
 case rest => (
 clear bd
 try clear c0
 try clear al
 try clear c1002b0
 try clear am
 try clear c1003b0
 try clear an
 try clear c1004b0
 try clear ao
 try clear c1005b0
 try clear ap
 try clear c1006b0
 try clear aI aJ aK aM aN aP aQ aT
 obtain ⟨kq, aU, rfl, HA, HJ1, aa, HB⟩ := hcut
 cases kq with
 | zero => exact absurd HA.out (by simp [impl_EncodeIcmp.j0])
 | succ a2 => {
 have H := HA.out
 clear HA
 simp only [impl_EncodeIcmp.j0] at H
 by_cases aV : aU = true
 {
 subst aV
 have H1 : (none) = some (r1, r2) := by rw [if_pos rfl] at H; exact H
 clear H
 have H := H1
 clear H1
 exact absurd H (by simp)
 }
 {
 replace aV := Bool.eq_false_iff.mpr aV
 subst aV
 have H1 : (if (af.length : Int) > 65000 then (none) else ((impl_put.f a2 (([(ad) % 256, (ae) % 256, 0, 0] : List Int)) 4 ag).bind fun ak => (if ak.length + af.length < 140737488355328 then ((some (ak ++ af : List Int)).bind fun ac => ((impl_Checksum.f a2 ac).bind fun ah => (if 2 < (ac.length : Int) then (if 3 < (ac.length : Int) then (some (((ac.set (2 : Int).toNat ((ah / 256) % 256)).set (3 : Int).toNat ((ah) % 256)), 0)) else (none)) else (none)))) else (none)))) = some (r1, r2) := by rw [if_neg (show ¬ (false = true) by decide)] at H; exact H
 clear H
 have H := H1
 clear H1
 by_cases aW : (af.length : Int) > 65000
 {
 rw [if_pos aW] at H
 exact absurd H (by simp)
 }
 {
 rw [if_neg aW] at H
 have c1008b0 : decide (65000 < (af.length : Int)) = false := decide_eq_false aW
 have c1008b1 : decide (65000 < af.length) = false := decide_eq_false (by omega)
 clear aW
 obtain ⟨a3, au⟩ : ∃ y_ : List Int, y_ = (([(ad) % 256, (ae) % 256, 0, 0] : List Int)) := ⟨_, rfl⟩
 replace H : ((impl_put.f a2 a3 4 ag).bind fun ak => (if ak.length + af.length < 140737488355328 then ((some (ak ++ af : List Int)).bind fun ac => ((impl_Checksum.f a2 ac).bind fun ah => (if 2 < (ac.length : Int) then (if 3 < (ac.length : Int) then (some (((ac.set (2 : Int).toNat ((ah / 256) % 256)).set (3 : Int).toNat ((ah) % 256)), 0)) else (none)) else (none)))) else (none))) = some (r1, r2) := by first | (rw [au]; with_reducible exact H) | (have H2_ := (Option.bind_some _ _).symm.trans H; rw [au]; with_reducible exact H2_) | (have H2_ := (Option.bind_some _ _).symm.trans H; with_reducible exact H2_) | with_reducible exact H | (rw [au]; exact H) | exact H
 have Ny393 := Aside0.mk au
 clear au
 replace H := Option.bind_eq_some_iff.mp H
 obtain ⟨ak, A10090, H⟩ := H
 have A1009 := Aside0.mk A10090
 clear A10090
 by_cases aX : ak.length + af.length < 140737488355328
 {
 rw [if_pos aX] at H
 have LMc1010 := Aside0.mk aX
 clear aX
 obtain ⟨ac, av⟩ : ∃ y_ : List Int, y_ = (ak ++ af) := ⟨_, rfl⟩
 replace H : ((impl_Checksum.f a2 ac).bind fun ah => (if 2 < (ac.length : Int) then (if 3 < (ac.length : Int) then (some (((ac.set (2 : Int).toNat ((ah / 256) % 256)).set (3 : Int).toNat ((ah) % 256)), 0)) else (none)) else (none))) = some (r1, r2) := by first | (rw [av]; with_reducible exact H) | (have H2_ := (Option.bind_some _ _).symm.trans H; rw [av]; with_reducible exact H2_) | (have H2_ := (Option.bind_some _ _).symm.trans H; with_reducible exact H2_) | with_reducible exact H | (rw [av]; exact H) | exact H
 have Ny399 := Aside0.mk av
 clear av
 replace H := Option.bind_eq_some_iff.mp H
 obtain ⟨ah, A10110, H⟩ := H
 have A1011 := Aside0.mk A10110
 clear A10110
 by_cases aY : 2 < (ac.length : Int)
 {
 rw [if_pos aY] at H
 have c1012b0 : decide (2 < (ac.length : Int)) = true := decide_eq_true aY
 have c1012b1 : decide (2 < ac.length) = true := decide_eq_true (by omega)
 clear aY
 obtain ⟨bc, aw⟩ : ∃ y_ : List Int, y_ = (ac.set (2 : Int).toNat ((ah / 256) % 256)) := ⟨_, rfl⟩
 replace H : (if 3 < (ac.length : Int) then (some ((bc.set (3 : Int).toNat ((ah) % 256)), 0)) else (none)) = some (r1, r2) := by first | (rw [aw]; with_reducible exact H) | (have H2_ := (Option.bind_some _ _).symm.trans H; rw [aw]; with_reducible exact H2_) | (have H2_ := (Option.bind_some _ _).symm.trans H; with_reducible exact H2_) | with_reducible exact H | (rw [aw]; exact H) | exact H
 have Ny403 := Aside0.mk aw
 clear aw
 by_cases aZ : 3 < (ac.length : Int)
 {
 rw [if_pos aZ] at H
 have c1014b0 : decide (3 < (ac.length : Int)) = true := decide_eq_true aZ
 have c1014b1 : decide (3 < ac.length) = true := decide_eq_true (by omega)
 clear aZ
 obtain ⟨be, ax⟩ : ∃ y_ : List Int, y_ = (bc.set (3 : Int).toNat ((ah) % 256)) := ⟨_, rfl⟩
 replace H : (some (be, 0)) = some (r1, r2) := by first | (rw [ax]; with_reducible exact H) | (have H2_ := (Option.bind_some _ _).symm.trans H; rw [ax]; with_reducible exact H2_) | (have H2_ := (Option.bind_some _ _).symm.trans H; with_reducible exact H2_) | with_reducible exact H | (rw [ax]; exact H) | exact H
 have Ny404 := Aside0.mk ax
 clear ax
 simp only [Option.some.injEq, Prod.mk.injEq] at H
 obtain ⟨rfl, rfl⟩ := H
 obtain ⟨⟨aI, aJ, aK, aM⟩, aN, aP, aQ, aT⟩ := cells4 aa.out
 try go_wp2
 have n0_ := Aside0.mk (blk_drew aa.out)
 have n1_ := Aside0.mk (below_drew1 HB.out)
 clear aa
 clear HB
 have aa := n0_
 have HB := n1_
 clear n0_ n1_
 refine start_ (n := 14) (S := fun w' => w'.cell? ⟨ar, 0, none⟩ = some (.int .i64 ad) ∧ w'.cell? ⟨ar, 1, none⟩ = some (.int .i64 ae) ∧ w'.cell? ⟨ar, 2, none⟩ = some (.int .i64 ag) ∧ w'.cell? ⟨ar, 3, none⟩ = some (.slice A0_3 af.length a1)) (ds := []) #[false, false, false, false, false, false, false, false, false, false, false, false, false, false] (by kernel_rfl) rfl rfl ⟨(blk_cell aa.out 0).trans rfl, (blk_cell aa.out 1).trans rfl, (blk_cell aa.out 2).trans rfl, (blk_cell aa.out 3).trans rfl⟩ (fun hHeld => ?_); refine with_tabW impl_EncodeIcmp.tab5 impl_EncodeIcmp.bits5 (fun HT_ HW_ => ?_)
 generalize wc.drew = bp at aa HB hHeld ⊢
 refine pure_ (i := 0) (N := some 38) (v := ?_) (a' := ?_) #[true, false, false, false, false, false, false, false, false, false, false, false, false, false] rfl rfl (any_of HT_.out (by kernel_rfl)) (fun _ _ _ h => h) (Or.inl ⟨by rfl, ?_⟩) ?_ ?_
 rotate_left
 {
 intro w'
 go_simp
 with_reducible rfl
 }
 rotate_left
 {
 simp only [Act.put, List.setIfInBounds_toArray, List.set_cons_zero, List.set_cons_succ, i64_w, i32_w]
 rfl
 }
 refine pure_ (i := 3) (N := some 41) (v := ?_) (a' := ?_) #[true, false, false, true, false, false, false, false, false, false, false, false, false, false] rfl rfl (any_of HT_.out (by kernel_rfl)) (fun _ _ _ h => h) (Or.inl ⟨by rfl, ?_⟩) ?_ ?_
 rotate_left
 {
 intro w'
 go_simp
 with_reducible rfl
 }
 rotate_left
 {
 simp only [Act.put, List.setIfInBounds_toArray, List.set_cons_zero, List.set_cons_succ, i64_w, i32_w]
 rfl
 }
 refine pure_ (i := 7) (N := some 45) (v := ?_) (a' := ?_) #[true, false, false, true, false, false, false, true, false, false, false, false, false, false] rfl rfl (any_of HT_.out (by kernel_rfl)) (fun _ _ _ h => h) (Or.inl ⟨by rfl, ?_⟩) ?_ ?_
 rotate_left
 {
 intro w'
 go_simp
 with_reducible rfl
 }
 rotate_left
 {
 simp only [Act.put, List.setIfInBounds_toArray, List.set_cons_zero, List.set_cons_succ, i64_w, i32_w]
 rfl
 }
 refine pure_ (i := 10) (N := some 48) (v := ?_) (a' := ?_) #[true, false, false, true, false, false, false, true, false, false, true, false, false, false] rfl rfl (any_of HT_.out (by kernel_rfl)) (fun _ _ _ h => h) (Or.inl ⟨by rfl, ?_⟩) ?_ ?_
 rotate_left
 {
 intro w'
 go_simp
 with_reducible rfl
 }
 rotate_left
 {
 simp only [Act.put, List.setIfInBounds_toArray, List.set_cons_zero, List.set_cons_succ, i64_w, i32_w]
 rfl
 }
 refine take_ (i := 1) (N := some 39) (v := ?_) (a' := ?_) #[true, true, false, true, false, false, false, true, false, false, true, false, false, false] rfl rfl (take_ofW HT_.out HW_.out (by kernel_rfl)) (fun _ _ _ h => h) (Or.inl ⟨by rfl, ?_⟩) hHeld ?_ ?_
 rotate_left
 {
 rintro w' ⟨s0, s1, s2, s3⟩
 go_simp
 with_reducible rfl
 }
 rotate_left
 {
 simp only [Act.put, List.setIfInBounds_toArray, List.set_cons_zero, List.set_cons_succ, i64_w, i32_w]
 rfl
 }
 refine pure_ (i := 2) (N := some 40) (v := ?_) (a' := ?_) #[true, true, true, true, false, false, false, true, false, false, true, false, false, false] rfl rfl (any_of HT_.out (by kernel_rfl)) (fun _ _ _ h => h) (Or.inl ⟨by rfl, ?_⟩) ?_ ?_
 rotate_left
 {
 intro w'
 go_simp
 with_reducible rfl
 }
 rotate_left
 {
 simp only [Act.put, List.setIfInBounds_toArray, List.set_cons_zero, List.set_cons_succ, i64_w, i32_w]
 rfl
 }
 refine take_ (i := 4) (N := some 42) (v := ?_) (a' := ?_) #[true, true, true, true, true, false, false, true, false, false, true, false, false, false] rfl rfl (take_ofW HT_.out HW_.out (by kernel_rfl)) (fun _ _ _ h => h) (Or.inl ⟨by rfl, ?_⟩) hHeld ?_ ?_
 rotate_left
 {
 rintro w' ⟨s0, s1, s2, s3⟩
 go_simp
 with_reducible rfl
 }
 rotate_left
 {
 simp only [Act.put, List.setIfInBounds_toArray, List.set_cons_zero, List.set_cons_succ, i64_w, i32_w]
 rfl
 }
 refine pure_ (i := 5) (N := some 43) (v := ?_) (a' := ?_) #[true, true, true, true, true, true, false, true, false, false, true, false, false, false] rfl rfl (any_of HT_.out (by kernel_rfl)) (fun _ _ _ h => h) (Or.inl ⟨by rfl, ?_⟩) ?_ ?_
 rotate_left
 {
 intro w'
 go_simp
 with_reducible rfl
 }
 rotate_left
 {
 simp only [Act.put, List.setIfInBounds_toArray, List.set_cons_zero, List.set_cons_succ, i64_w, i32_w]
 rfl
 }
 refine take_ (i := 8) (N := some 46) (v := ?_) (a' := ?_) #[true, true, true, true, true, true, false, true, true, false, true, false, false, false] rfl rfl (take_ofW HT_.out HW_.out (by kernel_rfl)) (fun _ _ _ h => h) (Or.inl ⟨by rfl, ?_⟩) hHeld ?_ ?_
 rotate_left
 {
 rintro w' ⟨s0, s1, s2, s3⟩
 go_simp
 with_reducible rfl
 }
 rotate_left
 {
 simp only [Act.put, List.setIfInBounds_toArray, List.set_cons_zero, List.set_cons_succ, i64_w, i32_w]
 rfl
 }
 refine take_ (i := 11) (N := some 49) (v := ?_) (a' := ?_) #[true, true, true, true, true, true, false, true, true, false, true, true, false, false] rfl rfl (take_ofW HT_.out HW_.out (by kernel_rfl)) (fun _ _ _ h => h) (Or.inl ⟨by rfl, ?_⟩) hHeld ?_ ?_
 rotate_left
 {
 rintro w' ⟨s0, s1, s2, s3⟩
 go_simp
 with_reducible rfl
 }
 rotate_left
 {
 simp only [Act.put, List.setIfInBounds_toArray, List.set_cons_zero, List.set_cons_succ, i64_w, i32_w]
 rfl
 }
 refine one_ (i := 6) (N := some 44) #[true, true, true, true, true, true, true, true, true, false, true, true, false, false] rfl rfl (one_of HT_.out (by kernel_rfl)) (by decide) (fun K hK => ?_)
 refine Kd.R_lit_step (Kd.int .u8) _ 5 ?hg (N := 44) ?hd (xs := ([(ad) % 256, (ae) % 256, 0, 0] : List Int)) (inner := [.int .u8 ((ad) % 256), .int .u8 ((ae) % 256), .int .u8 0, .int .u8 0]) (ok := fun _ => True) (okp := fun _ => True) ?hr ?hp (fun _ hk => hk) trivial (Below.refl _ _) (Nat.le_refl _) (by simp) ?_; (case hd => rfl); (case hg => rfl); (case hr => first | (go_simp; done) | (go_simp; rfl)); (case hp => exact (Reps.one (show Kd.M (Kd.int .u8) _ _ _ ((ad) % 256) [.int .u8 ((ad) % 256)] from rfl) (Reps.one (show Kd.M (Kd.int .u8) _ _ _ ((ae) % 256) [.int .u8 ((ae) % 256)] from rfl) (Reps.one (show Kd.M (Kd.int .u8) _ _ _ 0 [.int .u8 0] from rfl) (Reps.one (show Kd.M (Kd.int .u8) _ _ _ 0 [.int .u8 0] from rfl) (Reps.none _ _))))))
 intro bs bq aq hb hg_ hnew_
 clear hg_ hnew_
 (first | rw [← Ny393.out] at aq | (simp only [Int.reduceToNat] at aq; rw [← Ny393.out] at aq))
 have n0_ := Aside0.mk (Kd.R_lower aq (below_size wB))
 have n1_ := Aside0.mk (blk_below (Bh aa) hb)
 have n2_ := Aside0.mk (below_step wB hb)
 clear aa
 clear HB
 have a0 := n0_
 have aa := n1_
 have HB := n2_
 clear n0_ n1_ n2_
 clear hb aq
 obtain ⟨a4, a5, a9⟩ := Kd.R_slice a0.out
 (first | subst a9 | (injection a9 with f1_ f2_ f3_; have f4_ := f1_.symm; have f5_ := f3_.symm; clear f1_ f2_ f3_; subst f4_; subst f5_))
 refine hK.out _ _ ⟨(blk_cell aa.out 0).trans rfl, (blk_cell aa.out 1).trans rfl, (blk_cell aa.out 2).trans rfl, (blk_cell aa.out 3).trans rfl⟩ (fun hHeld => ?_)
 clear hK K
 refine norm_ (a' := ?_) ?_ ?_
 rotate_left
 {
 show Act.put _ (some 44) _ = _
 simp only [Act.put, List.setIfInBounds_toArray, List.set_cons_zero, List.set_cons_succ, i64_w, i32_w]
 rfl
 }
 refine one_ (i := 9) (N := some 47) #[true, true, true, true, true, true, true, true, true, true, true, true, false, false] rfl rfl (one_of HT_.out (by kernel_rfl)) (by decide) (fun K hK => ?_)
 refine goes_ Try.func54 (by kernel_rfl) rfl #[.slice a4 a3.length a5, .int .i64 4, .int .i64 ag] (by rfl) rfl rfl wT ?_
 with_reducible refine (impl_put.calls a2 (fun k_ => some k_ = (.slice a4 a3.length a5 : Value).ownBlock) (.slice a4 a3.length a5) a3 4 ag ak w _ ?side1 ?side2 A1009.out).mono ?_
 (case side1 => repeat (first | (with_reducible first | exact HB.out | apply below_alloc | apply pw_below_drewN | apply below_drew1 | refine below_set ?_ bi.out) | exact HB.out))
 (case side2 => exact Kd.R_tight rfl a0.out)
 rintro e br ⟨bk, rfl, bj, hb, hkp⟩
 refine ⟨_, rfl, ?_⟩
 have n0_ := Aside0.mk (blk_kept (Bh aa) hkp (fun hs_ => (fun e_ => (Kd.R_ne a0.out aa.out (by decide)) e_) hs_))
 have n1_ := Aside0.mk (Kd.R_mono (ok' := fun k_ => True) bj (fun k_ hk_ => trivial))
 have n2_ := Aside0.mk (hb)
 clear aa
 clear HB
 clear a0
 have aa := n0_
 have a7 := n1_
 have HB := n2_
 clear n0_ n1_ n2_
 (try clear hb)
 (try clear hkp)
 (try clear bj)
 refine hK.out _ _ ⟨(blk_cell aa.out 0).trans rfl, (blk_cell aa.out 1).trans rfl, (blk_cell aa.out 2).trans rfl, (blk_cell aa.out 3).trans rfl⟩ (fun hHeld => ?_)
 clear hK K
 refine norm_ (a' := ?_) ?_ ?_
 rotate_left
 {
 show Act.put _ (some 47) _ = _
 simp only [Act.put, List.setIfInBounds_toArray, List.set_cons_zero, List.set_cons_succ, i64_w, i32_w]
 rfl
 }
 refine one_ (i := 12) (N := some 50) #[true, true, true, true, true, true, true, true, true, true, true, true, true, false] rfl rfl (one_of HT_.out (by kernel_rfl)) (by decide) (fun K hK => ?_)
 refine Kd.R_append_rows_step (Kd.int .u8) (w0 := w) w.heap.size (by rfl) (.tmp 47) (.tmp 49) 22 5 (.int .u8 0) 1 rfl Try.underlying22 info5 rfl (by decide) (by omega) bk ak af _ _ _ (fun _ => True) (fun _ => False) rfl rfl ?aO ?aR (fun _ _ h => h) (fun _ h => h.elim) ?aF ?aB ?aS ?aL ?_
 (case aR => exact Kd.C_below HR0_3.out wB)
 (case aB => exact wB)
 (case aF => exact (fun _ _ => trivial))
 (case aO => exact (Rh a7))
 (case aS => exact (below_size wB))
 (case aL => have := LMc1010.out; omega)
 intro bu ai ho hb hg hat
 rw [← Ny399.out] at ho
 have n0_ := Aside0.mk (blk_grown (Bh aa) hg (Kd.R_ne a7.out aa.out (by decide)))
 have n1_ := Aside0.mk (hb)
 have n2_ := Aside0.mk (ho)
 clear aa
 clear HB
 clear a7
 have aa := n0_
 have HB := n1_
 have ab := n2_
 clear n0_ n1_ n2_
 clear ho hb hg hat
 refine hK.out _ _ ⟨(blk_cell aa.out 0).trans rfl, (blk_cell aa.out 1).trans rfl, (blk_cell aa.out 2).trans rfl, (blk_cell aa.out 3).trans rfl⟩ (fun hHeld => ?_)
 clear hK K
 refine norm_ (a' := ?_) ?_ ?_
 rotate_left
 {
 show Act.put _ (some 50) _ = _
 simp only [Act.put, List.setIfInBounds_toArray, List.set_cons_zero, List.set_cons_succ, i64_w, i32_w]
 rfl
 }
 refine pure_ (i := 13) (N := some 4) (v := ?_) (a' := ?_) #[true, true, true, true, true, true, true, true, true, true, true, true, true, true] rfl rfl (any_of HT_.out (by kernel_rfl)) (fun _ _ _ h => h) (Or.inl ⟨by rfl, ?_⟩) ?_ ?_
 rotate_left
 {
 intro w'
 go_simp
 with_reducible rfl
 }
 rotate_left
 {
 simp only [Act.put, List.setIfInBounds_toArray, List.set_cons_zero, List.set_cons_succ, i64_w, i32_w]
 rfl
 }
 refine done_ (done_of HT_.out (by kernel_rfl)) ?_
 obtain ⟨bf, a6, bg⟩ := Kd.R_slice ab.out
 subst bg
 try go_wp2_with (first | ((with_reducible refine gate_callee (f := 38) rfl ?_); refine gL (some 52) Try.func38 #[.slice bf ac.length a6] ?_; (with_reducible refine (impl_Checksum.calls a2 _ _ ac ah _ ?side1 ?side2 A1011.out).mono ?_); (case side1 => exact Ch ab); (case side2 => exact (Kd.R_reads' ab.out).2.1); rintro e w' ⟨rfl, ⟨nd, rfl⟩⟩; refine ⟨_, rfl, ?_⟩; (try (rw [drewN_self ai]; generalize hq_ : World.drewN ai _ = ai; replace ab := Aside0.mk (Kd.R_at hq_ ab.out); replace aa := Aside0.mk (blk_at hq_ aa.out); replace HB := Aside0.mk (below_at hq_ HB.out); clear hq_; (try (obtain ⟨⟨ay, az, aA, aC⟩, aD, aE, aG, aH⟩ := cells4 aa.out)))); have p1013 : 0 ≤ (2 : Int) := (by omega); have q1013 : (2 : Int) < ((ac.length : Int) : Int) := dT; have qi1013 : (2 < ac.length) = True := eq_true (by omega); obtain ⟨go1013, bm, ba, bb, gl1013, cl1013, HG1013⟩ := Kd.R_form ab.out (by omega); (first | cases ba | (injection ba with ea_ en_ ec_; (first | subst ea_ | (injection ea_ with ea_; subst ea_)); subst ec_; clear en_)); have GB1013 := Aside0.mk bb; have GG1013 := Aside0.mk HG1013; clear bb gl1013 HG1013; obtain ⟨hx1013_0, hf1013_0⟩ := Kd.R_celln 0 ab.out (2 : Int) p1013 q1013; (try rw [show ((2 : Int)).toNat = 2 from rfl] at hx1013_0); (try simp only [Nat.reduceMul, Nat.zero_mul, Nat.zero_add, Nat.reduceAdd] at hx1013_0); (try rw [show ((2 : Int)).toNat = 2 from rfl] at hf1013_0); (try simp only [Nat.reduceMul, Nat.zero_mul, Nat.zero_add, Nat.reduceAdd] at hf1013_0); replace p1013 := eq_true p1013; replace q1013 := eq_true q1013; obtain ⟨hy2009_, hz2009_⟩ := Kd.R_celln 0 ab.out (2 : Int) (by omega) dT; (try simp only [Int.reduceToNat, Int.toNat_zero, Int.toNat_ofNat, Nat.reduceMul, Nat.zero_mul, Nat.zero_add] at hy2009_ hz2009_); (try rw [show ((2 : Int)).toNat = 2 from rfl] at hy2009_); (try rw [show ((2 : Int)).toNat = 2 from rfl] at hz2009_); have HP2009 := Kd.R_putg ab.out (2 : Int) ((ah / 256) % 256)) | ((with_reducible refine gate_store (t := 5) (p := 60) rfl ?_); (try (rw [drewN_self ai]; generalize hq_ : World.drewN ai _ = ai; replace ab := Aside0.mk (Kd.R_at hq_ ab.out); replace aa := Aside0.mk (blk_at hq_ aa.out); replace HB := Aside0.mk (below_at hq_ HB.out); clear hq_; (try (obtain ⟨⟨ay, az, aA, aC⟩, aD, aE, aG, aH⟩ := cells4 aa.out)); (try (obtain ⟨hy2009_, hz2009_⟩ := Kd.R_celln 0 ab.out (2 : Int) (by omega) dT)); (try (try simp only [Int.reduceToNat, Int.toNat_zero, Int.toNat_ofNat, Nat.reduceMul, Nat.zero_mul, Nat.zero_add] at hy2009_ hz2009_)); (try (try rw [show ((2 : Int)).toNat = 2 from rfl] at hy2009_)); (try (try rw [show ((2 : Int)).toNat = 2 from rfl] at hz2009_)); (try (have HP2009 := Kd.R_putg ab.out (2 : Int) ((ah / 256) % 256))))); refine storeE (ai.setCell ⟨go1013, (2 : Int).toNat, none⟩ (.int .u8 ((ah / 256) % 256))) ?_; intro aj hw; have hg : ai.grownBy aj (some go1013) := (by rw [hw]; exact HP2009.2); have hp_ : Kd.R (Kd.int .u8) 5 aj w.heap.size (fun _ => True) (.slice (some ⟨go1013, 0, none⟩) ac.length a6) bc := (by rw [hw, Ny403.out]; exact HP2009.1); clear HP2009; replace aa := Aside0.mk (blk_grown (Bh aa) hg (Kd.R_ne ab.out aa.out (by decide))); replace ab := Aside0.mk (hp_); replace HB := Aside0.mk ((by rw [hw]; exact below_set (HB.out) GB1013.out : Below w.heap.size w aj)); clear hg hw hp_; have p1015 : 0 ≤ (3 : Int) := (by omega); have q1015 : (3 : Int) < ((ac.length : Int) : Int) := dT; have qi1015 : (3 < ac.length) = True := eq_true (by omega); obtain ⟨hx1015_0, hf1015_0⟩ := Kd.R_celln 0 ab.out (3 : Int) p1015 q1015; (try rw [show ((3 : Int)).toNat = 3 from rfl] at hx1015_0); (try simp only [Nat.reduceMul, Nat.zero_mul, Nat.zero_add, Nat.reduceAdd] at hx1015_0); (try rw [show ((3 : Int)).toNat = 3 from rfl] at hf1015_0); (try simp only [Nat.reduceMul, Nat.zero_mul, Nat.zero_add, Nat.reduceAdd] at hf1015_0); replace p1015 := eq_true p1015; replace q1015 := eq_true q1015; obtain ⟨hy2011_, hz2011_⟩ := Kd.R_celln 0 ab.out (3 : Int) (by omega) dT; (try simp only [Int.reduceToNat, Int.toNat_zero, Int.toNat_ofNat, Nat.reduceMul, Nat.zero_mul, Nat.zero_add] at hy2011_ hz2011_); (try rw [show ((3 : Int)).toNat = 3 from rfl] at hy2011_); (try rw [show ((3 : Int)).toNat = 3 from rfl] at hz2011_); have HP2011 := Kd.R_putg ab.out (3 : Int) ((ah) % 256)) | ((with_reducible refine gate_store (t := 5) (p := 61) rfl ?_); (try (rw [drewN_self aj]; generalize hq_ : World.drewN aj _ = aj; replace ab := Aside0.mk (Kd.R_at hq_ ab.out); replace aa := Aside0.mk (blk_at hq_ aa.out); replace HB := Aside0.mk (below_at hq_ HB.out); clear hq_; (try (obtain ⟨⟨ay, az, aA, aC⟩, aD, aE, aG, aH⟩ := cells4 aa.out)); (try (obtain ⟨hy2011_, hz2011_⟩ := Kd.R_celln 0 ab.out (3 : Int) (by omega) dT)); (try (try simp only [Int.reduceToNat, Int.toNat_zero, Int.toNat_ofNat, Nat.reduceMul, Nat.zero_mul, Nat.zero_add] at hy2011_ hz2011_)); (try (try rw [show ((3 : Int)).toNat = 3 from rfl] at hy2011_)); (try (try rw [show ((3 : Int)).toNat = 3 from rfl] at hz2011_)); (try (have HP2011 := Kd.R_putg ab.out (3 : Int) ((ah) % 256))))); refine storeE (aj.setCell ⟨go1013, (3 : Int).toNat, none⟩ (.int .u8 ((ah) % 256))) ?_; intro a8 hw; have hg : aj.grownBy a8 (some go1013) := (by rw [hw]; exact HP2011.2); have hp_ : Kd.R (Kd.int .u8) 5 a8 w.heap.size (fun _ => True) (.slice (some ⟨go1013, 0, none⟩) ac.length a6) be := (by rw [hw, Ny404.out]; exact HP2011.1); clear HP2011; replace aa := Aside0.mk (blk_grown (Bh aa) hg (Kd.R_ne ab.out aa.out (by decide))); replace ab := Aside0.mk (hp_); replace HB := Aside0.mk ((by rw [hw]; exact below_set (HB.out) GB1013.out : Below w.heap.size w a8)); clear hg hw hp_))
 go_ret2
 exact ⟨_, eR, by (with_reducible repeat (first | apply Kd.R_alloc | apply Kd.R_drewN | apply Kd.R_drew)); exact ab.out, wB⟩
 }
 {
 rw [if_neg aZ] at H
 exact absurd H (by simp)
 }
 }
 {
 rw [if_neg aY] at H
 exact absurd H (by simp)
 }
 }
 {
 rw [if_neg aX] at H
 exact absurd H (by simp)
 }
 }
 }
 }
 )

end Go.Proofs.Ytckhadlmhbhngaa.PFnComplain
