-- Written for this claim by a program of this session (wip/mkprint.py: the print, turned at a few places). Not trusted: Lean checks it.
import Derived.Test.YtckhadlmhbhngaaPFnComplainx0
import Derived.Test.YtckhadlmhbhngaaPFnComplainx1
import Derived.Test.YtckhadlmhbhngaaPFnComplainx3
namespace Go.Proofs.Ytckhadlmhbhngaa.PFnComplain
open Go.RowKit Go.Proofs.YtckhadlmhbhngaaW.PrintWords Go.Proofs.YtckhadlmhbhngaaW.PrintLast Go.Proofs.YtckhadlmhbhngaaW.PrintMore
attribute [local go_sem] max2_int min2_int max_two min_two max_three min_three max_four min_four   -- for this text's walks alone
set_option linter.unusedVariables false
set_option linter.unusedSimpArgs false

/-! ### impl_headIP: function 42 -/
mutual
def impl_headIP.j0 : Nat → List Int → Int → Int → Int → Bool → Bool → Int → Int → Int → Int → Int → List Int → List Int → Option (List Int)
  | 0, _, _, _, _, _, _, _, _, _, _, _, _, _ => none
  | k + 1, x4, x5, ab, ac, ad, aa, ae, af, ag, ah, ai, aj, ak => if aa = true then (impl_headIP.j1 k x4 (Go.bits .or .i64 x5 8192) ab ac ad aa ae af ag ah ai aj ak) else (impl_headIP.j1 k x4 x5 ab ac ad aa ae af ag ah ai aj ak)
def impl_headIP.j1 : Nat → List Int → Int → Int → Int → Bool → Bool → Int → Int → Int → Int → Int → List Int → List Int → Option (List Int)
  | 0, _, _, _, _, _, _, _, _, _, _, _, _, _ => none
  | k + 1, x4, x5, al, am, an, ao, ap, ac, ad, ae, af, aa, aq => (impl_put.f k x4 2 x5).bind fun ag => ((some (([(ac) % 256, (ad) % 256, 0, 0] : List Int) : List Int)).bind fun ah => (if ag.length + ah.length < 140737488355328 then ((impl_put.f k (ag ++ ah) 4 ae).bind fun ak => ((impl_put.f k ak 4 af).bind fun ai => (if ai.length + aa.length < 140737488355328 then ((some (ai ++ aa : List Int)).bind fun ab => ((impl_Checksum.f k ab).bind fun aj => (if 10 < (ab.length : Int) then (if 11 < (ab.length : Int) then (some ((ab.set (10 : Int).toNat ((aj / 256) % 256)).set (11 : Int).toNat ((aj) % 256))) else (none)) else (none)))) else (none)))) else (none)))
end
def impl_headIP.f (k : Nat) (ad : Int) (ae : Int) (af : Bool) (ag : Bool) (aa : Int) (ah : Int) (ai : Int) (aj : Int) (ak : Int) (ab : List Int) (ac : List Int) : Option (List Int) := (impl_put.f k (([(wrap64 (64 + (wrap64 (Int.tdiv (wrap64 (20 + (ab.length : Int))) 4)))) % 256, (ad) % 256] : List Int)) 2 (wrap64 ((wrap64 (20 + (ab.length : Int))) + (ac.length : Int)))).bind fun am => ((impl_put.f k am 2 ae).bind fun al => (if af = true then (impl_headIP.j0 k al (Go.bits .or .i64 (wrap64 (Int.tdiv aa 8)) 16384) ad ae af ag aa ah ai aj ak ab ac) else (impl_headIP.j0 k al (wrap64 (Int.tdiv aa 8)) ad ae af ag aa ah ai aj ak ab ac)))
theorem impl_headIP.mono_l : ∀ k, (∀ y0 y1 y2 y3 y4 y5 y6 y7 y8 y9 aa ab ac, LeO (impl_headIP.j0 k y0 y1 y2 y3 y4 y5 y6 y7 y8 y9 aa ab ac) (impl_headIP.j0 (k + 1) y0 y1 y2 y3 y4 y5 y6 y7 y8 y9 aa ab ac)) ∧ (∀ y0 y1 y2 y3 y4 y5 y6 y7 y8 y9 aa ab ac, LeO (impl_headIP.j1 k y0 y1 y2 y3 y4 y5 y6 y7 y8 y9 aa ab ac) (impl_headIP.j1 (k + 1) y0 y1 y2 y3 y4 y5 y6 y7 y8 y9 aa ab ac))
  | 0 => ⟨fun _ _ _ _ _ _ _ _ _ _ _ _ _ r h => by simp [impl_headIP.j0] at h, fun _ _ _ _ _ _ _ _ _ _ _ _ _ r h => by simp [impl_headIP.j1] at h⟩
  | k + 1 => by
    obtain ⟨ih0, ih1⟩ := impl_headIP.mono_l k
    refine ⟨?_, ?_⟩
    · intro y0 y1 y2 y3 y4 y5 y6 y7 y8 y9 aa ab ac
      unfold impl_headIP.j0
      repeat' first
      | (with_reducible exact ih0 _ _ _ _ _ _ _ _ _ _ _ _ _)
      | (with_reducible exact ih1 _ _ _ _ _ _ _ _ _ _ _ _ _)
      | (with_reducible exact impl_Checksum.mono _ _)
      | (with_reducible exact impl_put.mono _ _ _ _)
      | (with_reducible exact LeO.refl _)
      | (with_reducible exact LeO.none _)
      | (with_reducible refine LeO.ite ?_ ?_)
      | (with_reducible refine LeO.bind ?_ (fun _ => ?_))
      | exact ih0 _ _ _ _ _ _ _ _ _ _ _ _ _
      | exact ih1 _ _ _ _ _ _ _ _ _ _ _ _ _
      | exact impl_Checksum.mono _ _
      | exact impl_put.mono _ _ _ _
      | exact LeO.none _
      | refine LeO.ite ?_ ?_
      | refine LeO.bind ?_ (fun _ => ?_)
    · intro y0 y1 y2 y3 y4 y5 y6 y7 y8 y9 aa ab ac
      unfold impl_headIP.j1
      repeat' first
      | (with_reducible exact ih0 _ _ _ _ _ _ _ _ _ _ _ _ _)
      | (with_reducible exact ih1 _ _ _ _ _ _ _ _ _ _ _ _ _)
      | (with_reducible exact impl_Checksum.mono _ _)
      | (with_reducible exact impl_put.mono _ _ _ _)
      | (with_reducible exact LeO.refl _)
      | (with_reducible exact LeO.none _)
      | (with_reducible refine LeO.ite ?_ ?_)
      | (with_reducible refine LeO.bind ?_ (fun _ => ?_))
      | exact ih0 _ _ _ _ _ _ _ _ _ _ _ _ _
      | exact ih1 _ _ _ _ _ _ _ _ _ _ _ _ _
      | exact impl_Checksum.mono _ _
      | exact impl_put.mono _ _ _ _
      | exact LeO.none _
      | refine LeO.ite ?_ ?_
      | refine LeO.bind ?_ (fun _ => ?_)
theorem impl_headIP.mono : ∀ a0 a1 a2 a3 a4 a5 a6 a7 a8 a9 aa k, LeO (impl_headIP.f k a0 a1 a2 a3 a4 a5 a6 a7 a8 a9 aa) (impl_headIP.f (k + 1) a0 a1 a2 a3 a4 a5 a6 a7 a8 a9 aa) := by
 intro a0 a1 a2 a3 a4 a5 a6 a7 a8 a9 aa k
 obtain ⟨ih0, ih1⟩ := impl_headIP.mono_l k
 unfold impl_headIP.f
 repeat' first
     | (with_reducible exact ih0 _ _ _ _ _ _ _ _ _ _ _ _ _)
     | (with_reducible exact ih1 _ _ _ _ _ _ _ _ _ _ _ _ _)
     | (with_reducible exact impl_Checksum.mono _ _)
     | (with_reducible exact impl_put.mono _ _ _ _)
     | (with_reducible exact LeO.refl _)
     | (with_reducible exact LeO.none _)
     | (with_reducible refine LeO.ite ?_ ?_)
     | (with_reducible refine LeO.bind ?_ (fun _ => ?_))
     | exact ih0 _ _ _ _ _ _ _ _ _ _ _ _ _
     | exact ih1 _ _ _ _ _ _ _ _ _ _ _ _ _
     | exact impl_Checksum.mono _ _
     | exact impl_put.mono _ _ _ _
     | exact LeO.none _
     | refine LeO.ite ?_ ?_
     | refine LeO.bind ?_ (fun _ => ?_)
def impl_headIP.T3 : Bool × List (List Nat × List Nat) := (true, [([], []), ([], []), ([], []), ([2], [2]), ([3], [3]), ([1, 4], [1, 4]), ([0, 5], [0, 5]), ([], []), ([7], [7]), ([6, 8, 6], [6, 8]), ([9, 9, 0, 1, 2, 3, 4, 5, 6, 7, 8, 9], [0, 9])])
def impl_headIP.B3 : List Nat := [0, 0, 0, 4, 12, 30, 63, 0, 128, 511, 1023]
theorem impl_headIP.tab3 : rtab .any (opsOf Try.f42 3) = impl_headIP.T3 := by kernel_rfl
theorem impl_headIP.bits3 : waitsOk impl_headIP.T3.2 impl_headIP.B3 = true := by kernel_rfl
def impl_headIP.T11 : Bool × List (List Nat × List Nat) := (true, [([], []), ([], []), ([1], [1]), ([0, 2], [0, 2]), ([], []), ([4], [4]), ([3, 5, 3], [3, 5]), ([], []), ([7], [7]), ([6, 8, 6], [6, 8]), ([9, 9, 0, 1, 2, 3, 4, 5, 6, 7, 8, 9], [0, 9])])
def impl_headIP.B11 : List Nat := [0, 0, 2, 7, 0, 16, 63, 0, 128, 511, 1023]
theorem impl_headIP.tab11 : rtab .any (opsOf Try.f42 11) = impl_headIP.T11 := by kernel_rfl
theorem impl_headIP.bits11 : waitsOk impl_headIP.T11.2 impl_headIP.B11 = true := by kernel_rfl
set_option maxHeartbeats 60000000 in
set_option maxRecDepth 100000 in
theorem impl_headIP.calls (k : Nat) (ai : Int) (al : Int) (aq : Bool) (au : Bool) (ah : Int) (aj : Int) (ak : Int) (am : Int) (an : Int) (A0_9 : Option Addr) (aQ : Nat) (ab : List Int) (A0_10 : Option Addr) (aE : Nat) (ae : List Int) (r : List Int) (w : World) (hr0_9 : Kd.C (Kd.int .u8) w A0_9 ab.length ab) (hc0_9 : ab.length ≤ aQ) (hr0_10 : Kd.C (Kd.int .u8) w A0_10 ae.length ae) (hc0_10 : ae.length ≤ aE) (h : impl_headIP.f k ai al aq au ah aj ak am an ab ae = some r) :
 Calls Try.prog 42 #[.agg #[.int .i64 ai, .int .i64 al, .bool aq, .bool au, .int .i64 ah, .int .i64 aj, .int .i64 ak, .int .i64 am, .int .i64 an, .slice A0_9 ab.length aQ, .slice A0_10 ae.length aE]] w fun e w' => ∃ v0_ : Value, e = .returned (v0_) ∧ Kd.R (Kd.int .u8) 5 w' w.heap.size (fun _ => True) v0_ r ∧ Below w.heap.size w w' := by
 have hu25 := Try.underlying25
 have HR0_9 := Aside0.mk hr0_9
 have dO := Aside0.mk hc0_9
 clear hr0_9 hc0_9
 have HR0_10 := Aside0.mk hr0_10
 have dM := Aside0.mk hc0_10
 clear hr0_10 hc0_10
 have HB := Aside0.mk (Below.refl w.heap.size w)
 have H : ((impl_put.f k (([(wrap64 (64 + (wrap64 (Int.tdiv (wrap64 (20 + (ab.length : Int))) 4)))) % 256, (ai) % 256] : List Int)) 2 (wrap64 ((wrap64 (20 + (ab.length : Int))) + (ae.length : Int)))).bind fun aG => ((impl_put.f k aG 2 al).bind fun ao => (if aq = true then (impl_headIP.j0 k ao (Go.bits .or .i64 (wrap64 (Int.tdiv ah 8)) 16384) ai al aq au ah aj ak am an ab ae) else (impl_headIP.j0 k ao (wrap64 (Int.tdiv ah 8)) ai al aq au ah aj ak am an ab ae)))) = some r := h
 clear h
 obtain ⟨cg, aU⟩ : ∃ y_ : List Int, y_ = (([(wrap64 (64 + (wrap64 (Int.tdiv (wrap64 (20 + (ab.length : Int))) 4)))) % 256, (ai) % 256] : List Int)) := ⟨_, rfl⟩
 replace H : ((impl_put.f k cg 2 (wrap64 ((wrap64 (20 + (ab.length : Int))) + (ae.length : Int)))).bind fun aG => ((impl_put.f k aG 2 al).bind fun ao => (if aq = true then (impl_headIP.j0 k ao (Go.bits .or .i64 (wrap64 (Int.tdiv ah 8)) 16384) ai al aq au ah aj ak am an ab ae) else (impl_headIP.j0 k ao (wrap64 (Int.tdiv ah 8)) ai al aq au ah aj ak am an ab ae)))) = some r := by first | (rw [aU]; with_reducible exact H) | (have H2_ := (Option.bind_some _ _).symm.trans H; rw [aU]; with_reducible exact H2_) | (have H2_ := (Option.bind_some _ _).symm.trans H; with_reducible exact H2_) | with_reducible exact H | (rw [aU]; exact H) | exact H
 have Ny144 := Aside0.mk aU
 clear aU
 replace H := Option.bind_eq_some_iff.mp H
 obtain ⟨aG, A20, H⟩ := H
 have A2 := Aside0.mk A20
 clear A20
 replace H := Option.bind_eq_some_iff.mp H
 obtain ⟨ao, A30, H⟩ := H
 have A3 := Aside0.mk A30
 clear A30
 have da := Aside0.mk H
 clear H
 go_enter Try.func42, Try.ntmps42
 try go_wp2_with (first | ((with_reducible refine gate_dst (N := 1) rfl ?_); refine boxE 1 #[.int .i64 ai, .int .i64 al, .bool aq, .bool au, .int .i64 ah, .int .i64 aj, .int .i64 ak, .int .i64 am, .int .i64 an, .slice A0_9 ab.length aQ, .slice A0_10 ae.length aE] 25 ?_; intro ad hg dP hbox hb; have aa := Aside0.mk (hbox); have dj := Aside0.mk ((by rw [hg]; exact (below_size wB) : w.heap.size ≤ ad)); replace HB := Aside0.mk (below_step wB hb); have aV := dj; clear hb hbox hg; obtain ⟨⟨bu, bv, bw, bz, bA, bB, bC, bD, bE, bF, aW⟩, bG, bH, bI, bJ, bK, bL, bM, bN, bO, bP, aX⟩ := cells11 aa.out) | ((with_reducible refine gate_dst (N := 18) rfl ?_); refine Kd.R_lit (Kd.int .u8) _ 5 ?hg (N := 18) ?hd (xs := ([(wrap64 (64 + (wrap64 (Int.tdiv (wrap64 (20 + (ab.length : Int))) 4)))) % 256, (ai) % 256] : List Int)) (inner := [.int .u8 ((wrap64 (64 + (wrap64 (Int.tdiv (wrap64 (20 + (ab.length : Int))) 4)))) % 256), .int .u8 ((ai) % 256)]) (ok := fun _ => True) (okp := fun _ => True) ?hr ?hp (fun _ hk => hk) trivial (Below.refl _ _) (Nat.le_refl _) (by simp) ?_; (case hd => rfl); (case hg => rfl); (case hr => first | (go_simp; done) | (go_simp; rfl)); (case hp => exact (Reps.one (show Kd.M (Kd.int .u8) _ _ _ ((wrap64 (64 + (wrap64 (Int.tdiv (wrap64 (20 + (ab.length : Int))) 4)))) % 256) [.int .u8 ((wrap64 (64 + (wrap64 (Int.tdiv (wrap64 (20 + (ab.length : Int))) 4)))) % 256)] from rfl) (Reps.one (show Kd.M (Kd.int .u8) _ _ _ ((ai) % 256) [.int .u8 ((ai) % 256)] from rfl) (Reps.none _ _)))); intro dZ dk aJ hb hg_ hnew_; clear hg_ hnew_; (first | rw [← Ny144.out] at aJ | (simp only [Int.reduceToNat] at aJ; rw [← Ny144.out] at aJ)); have aw := Aside0.mk (Kd.R_lower aJ (below_size wB)); replace aa := Aside0.mk (blk_below (Bh aa) hb); replace HB := Aside0.mk (below_step wB hb); clear hb aJ))
 have n0_ := Aside0.mk (Kd.R_drew aw.out)
 have n1_ := Aside0.mk (blk_drew aa.out)
 have n2_ := Aside0.mk (below_drew1 HB.out)
 clear aw
 clear aa
 clear HB
 have aw := n0_
 have aa := n1_
 have HB := n2_
 clear n0_ n1_ n2_
 obtain ⟨ch, ci, cy⟩ := Kd.R_slice aw.out
 (first | subst cy | (injection cy with f1_ f2_ f3_; have f4_ := f1_.symm; have f5_ := f3_.symm; clear f1_ f2_ f3_; subst f4_; subst f5_))
 refine start_ (n := 11) (S := fun w' => w'.cell? ⟨ad, 0, none⟩ = some (.int .i64 ai) ∧ w'.cell? ⟨ad, 1, none⟩ = some (.int .i64 al) ∧ w'.cell? ⟨ad, 2, none⟩ = some (.bool aq) ∧ w'.cell? ⟨ad, 3, none⟩ = some (.bool au) ∧ w'.cell? ⟨ad, 4, none⟩ = some (.int .i64 ah) ∧ w'.cell? ⟨ad, 5, none⟩ = some (.int .i64 aj) ∧ w'.cell? ⟨ad, 6, none⟩ = some (.int .i64 ak) ∧ w'.cell? ⟨ad, 7, none⟩ = some (.int .i64 am) ∧ w'.cell? ⟨ad, 8, none⟩ = some (.int .i64 an) ∧ w'.cell? ⟨ad, 9, none⟩ = some (.slice A0_9 ab.length aQ) ∧ w'.cell? ⟨ad, 10, none⟩ = some (.slice A0_10 ae.length aE)) (ds := []) #[false, false, false, false, false, false, false, false, false, false, false] (by kernel_rfl) rfl rfl ⟨(blk_cell aa.out 0).trans rfl, (blk_cell aa.out 1).trans rfl, (blk_cell aa.out 2).trans rfl, (blk_cell aa.out 3).trans rfl, (blk_cell aa.out 4).trans rfl, (blk_cell aa.out 5).trans rfl, (blk_cell aa.out 6).trans rfl, (blk_cell aa.out 7).trans rfl, (blk_cell aa.out 8).trans rfl, (blk_cell aa.out 9).trans rfl, (blk_cell aa.out 10).trans rfl⟩ (fun hHeld => ?_); refine with_tabW impl_headIP.tab3 impl_headIP.bits3 (fun HT_ HW_ => ?_)
 generalize dk.drew = dQ at aw aa HB hHeld ⊢
 refine pure_ (i := 0) (N := some 19) (v := ?_) (a' := ?_) #[true, false, false, false, false, false, false, false, false, false, false] rfl rfl (any_of HT_.out (by kernel_rfl)) (fun _ _ _ h => h) (Or.inl ⟨by rfl, ?_⟩) ?_ ?_
 rotate_left
 {
 intro w'
 go_simp
 with_reducible rfl
 }
 rotate_left
 {
 simp only [Act.put, List.setIfInBounds_toArray, List.set_cons_zero, List.set_cons_succ, i64_w, i32_w]
 rfl
 }
 refine pure_ (i := 1) (N := some 20) (v := ?_) (a' := ?_) #[true, true, false, false, false, false, false, false, false, false, false] rfl rfl (any_of HT_.out (by kernel_rfl)) (fun _ _ _ h => h) (Or.inl ⟨by rfl, ?_⟩) ?_ ?_
 rotate_left
 {
 intro w'
 go_simp
 with_reducible rfl
 }
 rotate_left
 {
 simp only [Act.put, List.setIfInBounds_toArray, List.set_cons_zero, List.set_cons_succ, i64_w, i32_w]
 rfl
 }
 refine pure_ (i := 2) (N := some 21) (v := ?_) (a' := ?_) #[true, true, true, false, false, false, false, false, false, false, false] rfl rfl (any_of HT_.out (by kernel_rfl)) (fun _ _ _ h => h) (Or.inl ⟨by rfl, ?_⟩) ?_ ?_
 rotate_left
 {
 intro w'
 go_simp
 with_reducible rfl
 }
 rotate_left
 {
 simp only [Act.put, List.setIfInBounds_toArray, List.set_cons_zero, List.set_cons_succ, i64_w, i32_w]
 rfl
 }
 refine pure_ (i := 7) (N := some 26) (v := ?_) (a' := ?_) #[true, true, true, false, false, false, false, true, false, false, false] rfl rfl (any_of HT_.out (by kernel_rfl)) (fun _ _ _ h => h) (Or.inl ⟨by rfl, ?_⟩) ?_ ?_
 rotate_left
 {
 intro w'
 go_simp
 with_reducible rfl
 }
 rotate_left
 {
 simp only [Act.put, List.setIfInBounds_toArray, List.set_cons_zero, List.set_cons_succ, i64_w, i32_w]
 rfl
 }
 refine take_ (i := 3) (N := some 22) (v := ?_) (a' := ?_) #[true, true, true, true, false, false, false, true, false, false, false] rfl rfl (take_ofW HT_.out HW_.out (by kernel_rfl)) (fun _ _ _ h => h) (Or.inl ⟨by rfl, ?_⟩) hHeld ?_ ?_
 rotate_left
 {
 rintro w' ⟨s0, s1, s2, s3, s4, s5, s6, s7, s8, s9, cZ⟩
 go_simp
 with_reducible rfl
 }
 rotate_left
 {
 simp only [Act.put, List.setIfInBounds_toArray, List.set_cons_zero, List.set_cons_succ, i64_w, i32_w]
 rfl
 }
 refine pure_ (i := 4) (N := some 23) (v := ?_) (a' := ?_) #[true, true, true, true, true, false, false, true, false, false, false] rfl rfl (any_of HT_.out (by kernel_rfl)) (fun _ _ _ h => h) (Or.inl ⟨by rfl, ?_⟩) ?_ ?_
 rotate_left
 {
 intro w'
 go_simp
 with_reducible rfl
 }
 rotate_left
 {
 simp only [Act.put, List.setIfInBounds_toArray, List.set_cons_zero, List.set_cons_succ, i64_w, i32_w]
 rfl
 }
 refine pure_ (i := 5) (N := some 24) (v := ?_) (a' := ?_) #[true, true, true, true, true, true, false, true, false, false, false] rfl rfl (any_of HT_.out (by kernel_rfl)) (fun _ _ _ h => h) (Or.inl ⟨by rfl, ?_⟩) ?_ ?_
 rotate_left
 {
 intro w'
 go_simp
 with_reducible rfl
 }
 rotate_left
 {
 simp only [Act.put, List.setIfInBounds_toArray, List.set_cons_zero, List.set_cons_succ, i64_w, i32_w]
 rfl
 }
 refine take_ (i := 8) (N := some 27) (v := ?_) (a' := ?_) #[true, true, true, true, true, true, false, true, true, false, false] rfl rfl (take_ofW HT_.out HW_.out (by kernel_rfl)) (fun _ _ _ h => h) (Or.inl ⟨by rfl, ?_⟩) hHeld ?_ ?_
 rotate_left
 {
 rintro w' ⟨s0, s1, s2, s3, s4, s5, s6, s7, s8, s9, cZ⟩
 go_simp
 with_reducible rfl
 }
 rotate_left
 {
 simp only [Act.put, List.setIfInBounds_toArray, List.set_cons_zero, List.set_cons_succ, i64_w, i32_w]
 rfl
 }
 refine one_ (i := 6) (N := some 25) #[true, true, true, true, true, true, true, true, true, false, false] rfl rfl (one_of HT_.out (by kernel_rfl)) (by decide) (fun K hK => ?_)
 refine goes_ Try.func54 (by kernel_rfl) rfl #[.slice ch cg.length ci, .int .i64 2, .int .i64 (wrap64 ((wrap64 (20 + (ab.length : Int))) + (ae.length : Int)))] (by rfl) rfl rfl wT ?_
 with_reducible refine (impl_put.calls k (fun k_ => some k_ = (.slice ch cg.length ci : Value).ownBlock) (.slice ch cg.length ci) cg 2 (wrap64 ((wrap64 (20 + (ab.length : Int))) + (ae.length : Int))) aG w _ ?side1 ?side2 A2.out).mono ?_
 (case side1 => repeat (first | (with_reducible first | exact HB.out | apply below_alloc | apply pw_below_drewN | apply below_drew1 | refine below_set ?_ aV.out) | exact HB.out))
 (case side2 => exact Kd.R_tight rfl aw.out)
 rintro e dR ⟨d0, rfl, av, hb, hkp⟩
 refine ⟨_, rfl, ?_⟩
 have n0_ := Aside0.mk (blk_kept (Bh aa) hkp (fun hs_ => (fun e_ => (Kd.R_ne aw.out aa.out (by decide)) e_) hs_))
 have n1_ := Aside0.mk (Kd.R_mono (ok' := fun k_ => True) av (fun k_ hk_ => trivial))
 have n2_ := Aside0.mk (hb)
 clear aa
 clear HB
 clear aw
 have aa := n0_
 have ca := n1_
 have HB := n2_
 clear n0_ n1_ n2_
 (try clear hb)
 (try clear hkp)
 (try clear av)
 obtain ⟨cj, ck, cz⟩ := Kd.R_slice ca.out
 (first | subst cz | (injection cz with f1_ f2_ f3_; have f4_ := f1_.symm; have f5_ := f3_.symm; clear f1_ f2_ f3_; subst f4_; subst f5_))
 refine hK.out _ _ ⟨(blk_cell aa.out 0).trans rfl, (blk_cell aa.out 1).trans rfl, (blk_cell aa.out 2).trans rfl, (blk_cell aa.out 3).trans rfl, (blk_cell aa.out 4).trans rfl, (blk_cell aa.out 5).trans rfl, (blk_cell aa.out 6).trans rfl, (blk_cell aa.out 7).trans rfl, (blk_cell aa.out 8).trans rfl, (blk_cell aa.out 9).trans rfl, (blk_cell aa.out 10).trans rfl⟩ (fun hHeld => ?_)
 clear hK K
 refine norm_ (a' := ?_) ?_ ?_
 rotate_left
 {
 show Act.put _ (some 25) _ = _
 simp only [Act.put, List.setIfInBounds_toArray, List.set_cons_zero, List.set_cons_succ, i64_w, i32_w]
 rfl
 }
 refine one_ (i := 9) (N := some 28) #[true, true, true, true, true, true, true, true, true, true, false] rfl rfl (one_of HT_.out (by kernel_rfl)) (by decide) (fun K hK => ?_)
 refine goes_ Try.func54 (by kernel_rfl) rfl #[.slice cj aG.length ck, .int .i64 2, .int .i64 al] (by rfl) rfl rfl wT ?_
 with_reducible refine (impl_put.calls k (fun k_ => some k_ = (.slice cj aG.length ck : Value).ownBlock) (.slice cj aG.length ck) aG 2 al ao w _ ?side1 ?side2 A3.out).mono ?_
 (case side1 => repeat (first | (with_reducible first | exact HB.out | apply below_alloc | apply pw_below_drewN | apply below_drew1 | refine below_set ?_ aV.out) | exact HB.out))
 (case side2 => exact Kd.R_tight rfl ca.out)
 rintro e dS ⟨db, rfl, av, hb, hkp⟩
 refine ⟨_, rfl, ?_⟩
 have n0_ := Aside0.mk (blk_kept (Bh aa) hkp (fun hs_ => (fun e_ => (Kd.R_ne ca.out aa.out (by decide)) e_) hs_))
 have n1_ := Aside0.mk (Kd.R_mono (ok' := fun k_ => True) av (fun k_ hk_ => trivial))
 have n2_ := Aside0.mk (hb)
 clear aa
 clear HB
 clear ca
 have aa := n0_
 have c1 := n1_
 have HB := n2_
 clear n0_ n1_ n2_
 (try clear hb)
 (try clear hkp)
 (try clear av)
 refine hK.out _ _ ⟨(blk_cell aa.out 0).trans rfl, (blk_cell aa.out 1).trans rfl, (blk_cell aa.out 2).trans rfl, (blk_cell aa.out 3).trans rfl, (blk_cell aa.out 4).trans rfl, (blk_cell aa.out 5).trans rfl, (blk_cell aa.out 6).trans rfl, (blk_cell aa.out 7).trans rfl, (blk_cell aa.out 8).trans rfl, (blk_cell aa.out 9).trans rfl, (blk_cell aa.out 10).trans rfl⟩ (fun hHeld => ?_)
 clear hK K
 refine norm_ (a' := ?_) ?_ ?_
 rotate_left
 {
 show Act.put _ (some 28) _ = _
 simp only [Act.put, List.setIfInBounds_toArray, List.set_cons_zero, List.set_cons_succ, i64_w, i32_w]
 rfl
 }
 refine pure_ (i := 10) (N := some 4) (v := ?_) (a' := ?_) #[true, true, true, true, true, true, true, true, true, true, true] rfl rfl (any_of HT_.out (by kernel_rfl)) (fun _ _ _ h => h) (Or.inl ⟨by rfl, ?_⟩) ?_ ?_
 rotate_left
 {
 intro w'
 go_simp
 with_reducible rfl
 }
 rotate_left
 {
 simp only [Act.put, List.setIfInBounds_toArray, List.set_cons_zero, List.set_cons_succ, i64_w, i32_w]
 rfl
 }
 refine done_ (done_of HT_.out (by kernel_rfl)) ?_
 obtain ⟨⟨bQ, bR, bS, bT, bU, bV, bW, bX, bY, bZ, aY⟩, b0, b1, b2, b3, b4, b5, b6, b7, b8, b9, aZ⟩ := cells11 aa.out
 go_upto_if 33 with (fail)
 go_cut [5] (fun v5 wc => ∃ (kq : Nat) (aT : Int), v5 = .int .i64 aT ∧ Aside0 (impl_headIP.j0 kq ao aT ai al aq au ah aj ak am an ab ae = some r) ∧ Aside0 (kq ≤ k) ∧ Aside0 (Kd.R (Kd.int .u8) 5 wc w.heap.size (fun _ => True) db ao) ∧ Aside0 (wc.heap[ad]? = some (.cells #[.int .i64 ai, .int .i64 al, .bool aq, .bool au, .int .i64 ah, .int .i64 aj, .int .i64 ak, .int .i64 am, .int .i64 an, (.slice A0_9 ab.length aQ), (.slice A0_10 ae.length aE)] 25 (0, 0))) ∧ Aside0 (Below w.heap.size w wc))
 case first => (
 have H := da.out
 clear da
 by_cases aK : aq = true
 {
 subst aK
 have H1 : (impl_headIP.j0 k ao (Go.bits .or .i64 (wrap64 (Int.tdiv ah 8)) 16384) ai al true au ah aj ak am an ab ae) = some r := by rw [if_pos rfl] at H; exact H
 clear H
 have H := H1
 clear H1
 have H' := Aside0.mk H
 clear H
 go_wp2
 go_meet
 case rel => exact ⟨_, (Go.bits .or .i64 (wrap64 (Int.tdiv ah 8)) 16384), eS, H', ⟨by first | omega | exact Nat.le_refl _⟩, ⟨Rh c1⟩, ⟨Bh aa⟩, ⟨wB⟩⟩
 }
 {
 replace aK := Bool.eq_false_iff.mpr aK
 subst aK
 have H1 : (impl_headIP.j0 k ao (wrap64 (Int.tdiv ah 8)) ai al false au ah aj ak am an ab ae) = some r := by rw [if_neg (show ¬ (false = true) by decide)] at H; exact H
 clear H
 have H := H1
 clear H1
 have H' := Aside0.mk H
 clear H
 go_wp2
 go_meet
 case rel => exact ⟨_, (wrap64 (Int.tdiv ah 8)), eS, H', ⟨by first | omega | exact Nat.le_refl _⟩, ⟨Rh c1⟩, ⟨Bh aa⟩, ⟨wB⟩⟩
 }
 )
 case rest => (
 clear da
 try clear c0
 try clear aK
 try clear bu bv aW bw bz bA bB bC bD bE bF bG bH aX bI bJ bK bL bM bN bO bP
 try clear bQ bR aY bS bT bU bV bW bX bY bZ b0 b1 aZ b2 b3 b4 b5 b6 b7 b8 b9
 obtain ⟨kq, aT, rfl, HA, HJ3, HO_4, aa, HB⟩ := hcut
 cases kq with
 | zero => exact absurd HA.out (by simp [impl_headIP.j0])
 | succ dc => {
 have H := HA.out
 clear HA
 simp only [impl_headIP.j0] at H
 have cl := Aside0.mk H
 clear H
 obtain ⟨⟨cA, cB, cC, cD, cE, cF, cG, cH, cI, cJ, cu⟩, cK, cL, cM, cN, cO, cP, cQ, cR, cS, cT, cv⟩ := cells11 aa.out
 go_upto_if 37 with (fail)
 go_cut [5] (fun v5 wc => ∃ (kq : Nat) (aC : Int), v5 = .int .i64 aC ∧ Aside0 (impl_headIP.j1 kq ao aC ai al aq au ah aj ak am an ab ae = some r) ∧ Aside0 (kq ≤ dc) ∧ Aside0 (Kd.R (Kd.int .u8) 5 wc w.heap.size (fun _ => True) db ao) ∧ Aside0 (wc.heap[ad]? = some (.cells #[.int .i64 ai, .int .i64 al, .bool aq, .bool au, .int .i64 ah, .int .i64 aj, .int .i64 ak, .int .i64 am, .int .i64 an, (.slice A0_9 ab.length aQ), (.slice A0_10 ae.length aE)] 25 (0, 0))) ∧ Aside0 (Below w.heap.size w wc))
 case first => (
 have H := cl.out
 clear cl
 by_cases a0 : au = true
 {
 subst a0
 have H1 : (impl_headIP.j1 dc ao (Go.bits .or .i64 aT 8192) ai al aq true ah aj ak am an ab ae) = some r := by rw [if_pos rfl] at H; exact H
 clear H
 have H := H1
 clear H1
 have H' := Aside0.mk H
 clear H
 go_wp2
 go_meet
 case rel => exact ⟨_, (Go.bits .or .i64 aT 8192), eS, H', ⟨by have := HJ3.out; first | omega | exact Nat.le_refl _⟩, ⟨Rh HO_4⟩, ⟨Bh aa⟩, ⟨wB⟩⟩
 }
 {
 replace a0 := Bool.eq_false_iff.mpr a0
 subst a0
 have H1 : (impl_headIP.j1 dc ao aT ai al aq false ah aj ak am an ab ae) = some r := by rw [if_neg (show ¬ (false = true) by decide)] at H; exact H
 clear H
 have H := H1
 clear H1
 have H' := Aside0.mk H
 clear H
 go_wp2
 go_meet
 case rel => exact ⟨_, (aT), eS, H', ⟨by have := HJ3.out; first | omega | exact Nat.le_refl _⟩, ⟨Rh HO_4⟩, ⟨Bh aa⟩, ⟨wB⟩⟩
 }
 )
 case rest => (
 clear cl
 try clear c0
 try clear aK
 try clear a0
 try clear bu bv aW bw bz bA bB bC bD bE bF bG bH aX bI bJ bK bL bM bN bO bP
 try clear bQ bR aY bS bT bU bV bW bX bY bZ b0 b1 aZ b2 b3 b4 b5 b6 b7 b8 b9
 try clear cA cB cu cC cD cE cF cG cH cI cJ cK cL cv cM cN cO cP cQ cR cS cT
 obtain ⟨kq, aC, rfl, HA, HJ1011, HO_4, aa, HB⟩ := hcut
 cases kq with
 | zero => exact absurd HA.out (by simp [impl_headIP.j1])
 | succ ar => {
 have H := HA.out
 clear HA
 simp only [impl_headIP.j1] at H
 replace H := Option.bind_eq_some_iff.mp H
 obtain ⟨bs, A20030, H⟩ := H
 have A2003 := Aside0.mk A20030
 clear A20030
 obtain ⟨aH, a1⟩ : ∃ y_ : List Int, y_ = (([(aj) % 256, (ak) % 256, 0, 0] : List Int)) := ⟨_, rfl⟩
 replace H : (if bs.length + aH.length < 140737488355328 then ((impl_put.f ar (bs ++ aH) 4 am).bind fun aI => ((impl_put.f ar aI 4 an).bind fun aA => (if aA.length + ab.length < 140737488355328 then ((some (aA ++ ab : List Int)).bind fun ag => ((impl_Checksum.f ar ag).bind fun ap => (if 10 < (ag.length : Int) then (if 11 < (ag.length : Int) then (some ((ag.set (10 : Int).toNat ((ap / 256) % 256)).set (11 : Int).toNat ((ap) % 256))) else (none)) else (none)))) else (none)))) else (none)) = some r := by first | (rw [a1]; with_reducible exact H) | (have H2_ := (Option.bind_some _ _).symm.trans H; rw [a1]; with_reducible exact H2_) | (have H2_ := (Option.bind_some _ _).symm.trans H; with_reducible exact H2_) | with_reducible exact H | (rw [a1]; exact H) | exact H
 have Ny156 := Aside0.mk a1
 clear a1
 by_cases cb : bs.length + aH.length < 140737488355328
 {
 rw [if_pos cb] at H
 have LMc2004 := Aside0.mk cb
 clear cb
 obtain ⟨cm, a2⟩ : ∃ y_ : List Int, y_ = (bs ++ aH) := ⟨_, rfl⟩
 replace H : ((impl_put.f ar cm 4 am).bind fun aI => ((impl_put.f ar aI 4 an).bind fun aA => (if aA.length + ab.length < 140737488355328 then ((some (aA ++ ab : List Int)).bind fun ag => ((impl_Checksum.f ar ag).bind fun ap => (if 10 < (ag.length : Int) then (if 11 < (ag.length : Int) then (some ((ag.set (10 : Int).toNat ((ap / 256) % 256)).set (11 : Int).toNat ((ap) % 256))) else (none)) else (none)))) else (none)))) = some r := by first | (rw [a2]; with_reducible exact H) | (have H2_ := (Option.bind_some _ _).symm.trans H; rw [a2]; with_reducible exact H2_) | (have H2_ := (Option.bind_some _ _).symm.trans H; with_reducible exact H2_) | with_reducible exact H | (rw [a2]; exact H) | exact H
 have Ny159 := Aside0.mk a2
 clear a2
 replace H := Option.bind_eq_some_iff.mp H
 obtain ⟨aI, A20050, H⟩ := H
 have A2005 := Aside0.mk A20050
 clear A20050
 replace H := Option.bind_eq_some_iff.mp H
 obtain ⟨aA, A20060, H⟩ := H
 have A2006 := Aside0.mk A20060
 clear A20060
 by_cases cc : aA.length + ab.length < 140737488355328
 {
 rw [if_pos cc] at H
 have LMc2007 := Aside0.mk cc
 clear cc
 obtain ⟨ag, a3⟩ : ∃ y_ : List Int, y_ = (aA ++ ab) := ⟨_, rfl⟩
 replace H : ((impl_Checksum.f ar ag).bind fun ap => (if 10 < (ag.length : Int) then (if 11 < (ag.length : Int) then (some ((ag.set (10 : Int).toNat ((ap / 256) % 256)).set (11 : Int).toNat ((ap) % 256))) else (none)) else (none))) = some r := by first | (rw [a3]; with_reducible exact H) | (have H2_ := (Option.bind_some _ _).symm.trans H; rw [a3]; with_reducible exact H2_) | (have H2_ := (Option.bind_some _ _).symm.trans H; with_reducible exact H2_) | with_reducible exact H | (rw [a3]; exact H) | exact H
 have Ny168 := Aside0.mk a3
 clear a3
 replace H := Option.bind_eq_some_iff.mp H
 obtain ⟨ap, A20080, H⟩ := H
 have A2008 := Aside0.mk A20080
 clear A20080
 by_cases cd : 10 < (ag.length : Int)
 {
 rw [if_pos cd] at H
 have c2009b0 : decide (10 < (ag.length : Int)) = true := decide_eq_true cd
 have c2009b1 : decide (10 < ag.length) = true := decide_eq_true (by omega)
 clear cd
 obtain ⟨cY, a4⟩ : ∃ y_ : List Int, y_ = (ag.set (10 : Int).toNat ((ap / 256) % 256)) := ⟨_, rfl⟩
 replace H : (if 11 < (ag.length : Int) then (some (cY.set (11 : Int).toNat ((ap) % 256))) else (none)) = some r := by first | (rw [a4]; with_reducible exact H) | (have H2_ := (Option.bind_some _ _).symm.trans H; rw [a4]; with_reducible exact H2_) | (have H2_ := (Option.bind_some _ _).symm.trans H; with_reducible exact H2_) | with_reducible exact H | (rw [a4]; exact H) | exact H
 have Ny172 := Aside0.mk a4
 clear a4
 by_cases ce : 11 < (ag.length : Int)
 {
 rw [if_pos ce] at H
 have c2011b0 : decide (11 < (ag.length : Int)) = true := decide_eq_true ce
 have c2011b1 : decide (11 < ag.length) = true := decide_eq_true (by omega)
 clear ce
 obtain ⟨dd, a5⟩ : ∃ y_ : List Int, y_ = (cY.set (11 : Int).toNat ((ap) % 256)) := ⟨_, rfl⟩
 replace H : (some dd) = some r := by first | (rw [a5]; with_reducible exact H) | (have H2_ := (Option.bind_some _ _).symm.trans H; rw [a5]; with_reducible exact H2_) | (have H2_ := (Option.bind_some _ _).symm.trans H; with_reducible exact H2_) | with_reducible exact H | (rw [a5]; exact H) | exact H
 have Ny173 := Aside0.mk a5
 clear a5
 obtain rfl := Option.some.inj H
 obtain ⟨cn, co, de⟩ := Kd.R_slice HO_4.out
 subst de
 try go_wp2_with (first | ((with_reducible refine gate_callee (f := 54) rfl ?_); refine gL (some 42) Try.func54 #[.slice cn ao.length co, .int .i64 2, .int .i64 aC] ?_; (with_reducible refine (impl_put.calls ar (fun k_ => some k_ = (.slice cn ao.length co : Value).ownBlock) (.slice cn ao.length co) ao 2 aC bs w _ ?side1 ?side2 A2003.out).mono ?_); (case side1 => repeat (first | (with_reducible first | exact HB.out | apply below_alloc | apply pw_below_drewN | apply below_drew1 | refine below_set ?_ aV.out) | exact HB.out)); (case side2 => exact Kd.R_tight rfl HO_4.out); rintro e dU ⟨dK, rfl, av, hb, hkp⟩; refine ⟨_, rfl, ?_⟩; replace aa := Aside0.mk (blk_kept (Bh aa) hkp (fun hs_ => (fun e_ => (Kd.R_ne HO_4.out aa.out (by decide)) e_) hs_)); have aM := Aside0.mk (Kd.R_mono (ok' := fun k_ => True) av (fun k_ hk_ => trivial)); replace HB := Aside0.mk (hb); clear HO_4; (try clear hb); (try clear hkp); (try clear av); obtain ⟨⟨dp, dq, dr, dt, du, dv, dw, dx, dy, dz, dl⟩, dA, dB, dC, dD, dE, dF, dG, dH, dI, dJ, dm⟩ := cells11 aa.out) | ((with_reducible refine gate_dst (N := 50) rfl ?_); refine Kd.R_lit (Kd.int .u8) _ 5 ?hg (N := 50) ?hd (xs := ([(aj) % 256, (ak) % 256, 0, 0] : List Int)) (inner := [.int .u8 ((aj) % 256), .int .u8 ((ak) % 256), .int .u8 0, .int .u8 0]) (ok := fun _ => True) (okp := fun _ => True) ?hr ?hp (fun _ hk => hk) trivial (Below.refl _ _) (Nat.le_refl _) (by simp) ?_; (case hd => rfl); (case hg => rfl); (case hr => first | (go_simp; done) | (go_simp; rfl)); (case hp => exact (Reps.one (show Kd.M (Kd.int .u8) _ _ _ ((aj) % 256) [.int .u8 ((aj) % 256)] from rfl) (Reps.one (show Kd.M (Kd.int .u8) _ _ _ ((ak) % 256) [.int .u8 ((ak) % 256)] from rfl) (Reps.one (show Kd.M (Kd.int .u8) _ _ _ 0 [.int .u8 0] from rfl) (Reps.one (show Kd.M (Kd.int .u8) _ _ _ 0 [.int .u8 0] from rfl) (Reps.none _ _)))))); intro d1 dV aD hb hg_ hnew_; clear hg_ hnew_; (first | rw [← Ny156.out] at aD | (simp only [Int.reduceToNat] at aD; rw [← Ny156.out] at aD)); have af := Aside0.mk (Kd.R_lower (Kd.R_new' aD (Kd.R_lt (Rh aM))) (below_size wB)); replace aM := Aside0.mk (Kd.R_elder' (Rh aM) (Kd.R_base aD) hb); replace aa := Aside0.mk (blk_below (Bh aa) hb); replace HB := Aside0.mk (below_step wB hb); clear hb aD; obtain ⟨a6, a7, df⟩ := Kd.R_slice af.out; subst df) | ((with_reducible refine gate_builtin (b := .append) (xs := #[.tmp 43, .tmp 50]) rfl ?_); at_builtin; refine Kd.R_append_rows (Kd.int .u8) (w0 := w) w.heap.size rfl (.tmp 43) (.tmp 50) 22 5 (.int .u8 0) 1 rfl Try.underlying22 info5 rfl (by decide) (by omega) dK bs aH _ _ _ (fun k_ => some k_ ≠ (.slice a6 aH.length a7 : Value).ownBlock) (fun _ => False) rfl rfl ?aO ?aR (fun _ _ h => h) (fun _ h => h.elim) ?aF ?aB ?aS ?aL ?_; (case aR => exact Ch af); (case aB => exact wB); (case aF => exact (fun k_ hk => Kd.fresh' (Kd.R_lt (Rh af)) k_ hk)); (case aO => exact (Kd.R_mono (Rh aM) (fun _ hk => hk.2))); (case aS => exact (below_size wB)); (case aL => have := LMc2004.out; omega); intro d2 dn ho hb hg hat; rw [← Ny159.out] at ho; replace aa := Aside0.mk (blk_grown (Bh aa) hg (Kd.R_ne aM.out aa.out (by decide))); replace af := Aside0.mk (Kd.R_after (ok := (fun _ => True)) (Rh af) hg hat); replace HB := Aside0.mk (hb); have ax := Aside0.mk (ho); clear aM; clear ho hb hg hat))
 have n0_ := Aside0.mk (Kd.R_drew af.out)
 have n1_ := Aside0.mk (Kd.R_drew ax.out)
 have n2_ := Aside0.mk (blk_drew aa.out)
 have n3_ := Aside0.mk (below_drew1 HB.out)
 clear af
 clear ax
 clear aa
 clear HB
 have af := n0_
 have ax := n1_
 have aa := n2_
 have HB := n3_
 clear n0_ n1_ n2_ n3_
 obtain ⟨cp, cq, cU⟩ := Kd.R_slice ax.out
 (first | subst cU | (injection cU with f1_ f2_ f3_; have f4_ := f1_.symm; have f5_ := f3_.symm; clear f1_ f2_ f3_; subst f4_; subst f5_))
 refine start_ (n := 11) (S := fun w' => w'.cell? ⟨ad, 0, none⟩ = some (.int .i64 ai) ∧ w'.cell? ⟨ad, 1, none⟩ = some (.int .i64 al) ∧ w'.cell? ⟨ad, 2, none⟩ = some (.bool aq) ∧ w'.cell? ⟨ad, 3, none⟩ = some (.bool au) ∧ w'.cell? ⟨ad, 4, none⟩ = some (.int .i64 ah) ∧ w'.cell? ⟨ad, 5, none⟩ = some (.int .i64 aj) ∧ w'.cell? ⟨ad, 6, none⟩ = some (.int .i64 ak) ∧ w'.cell? ⟨ad, 7, none⟩ = some (.int .i64 am) ∧ w'.cell? ⟨ad, 8, none⟩ = some (.int .i64 an) ∧ w'.cell? ⟨ad, 9, none⟩ = some (.slice A0_9 ab.length aQ) ∧ w'.cell? ⟨ad, 10, none⟩ = some (.slice A0_10 ae.length aE)) (ds := []) #[false, false, false, false, false, false, false, false, false, false, false] (by kernel_rfl) rfl rfl ⟨(blk_cell aa.out 0).trans rfl, (blk_cell aa.out 1).trans rfl, (blk_cell aa.out 2).trans rfl, (blk_cell aa.out 3).trans rfl, (blk_cell aa.out 4).trans rfl, (blk_cell aa.out 5).trans rfl, (blk_cell aa.out 6).trans rfl, (blk_cell aa.out 7).trans rfl, (blk_cell aa.out 8).trans rfl, (blk_cell aa.out 9).trans rfl, (blk_cell aa.out 10).trans rfl⟩ (fun hHeld => ?_); refine with_tabW impl_headIP.tab11 impl_headIP.bits11 (fun HT_ HW_ => ?_)
 generalize dn.drew = dW at af ax aa HB hHeld ⊢
 refine pure_ (i := 0) (N := some 52) (v := ?_) (a' := ?_) #[true, false, false, false, false, false, false, false, false, false, false] rfl rfl (any_of HT_.out (by kernel_rfl)) (fun _ _ _ h => h) (Or.inl ⟨by rfl, ?_⟩) ?_ ?_
 rotate_left
 {
 intro w'
 go_simp
 with_reducible rfl
 }
 rotate_left
 {
 simp only [Act.put, List.setIfInBounds_toArray, List.set_cons_zero, List.set_cons_succ, i64_w, i32_w]
 rfl
 }
 refine pure_ (i := 1) (N := some 53) (v := ?_) (a' := ?_) #[true, true, false, false, false, false, false, false, false, false, false] rfl rfl (any_of HT_.out (by kernel_rfl)) (fun _ _ _ h => h) (Or.inl ⟨by rfl, ?_⟩) ?_ ?_
 rotate_left
 {
 intro w'
 go_simp
 with_reducible rfl
 }
 rotate_left
 {
 simp only [Act.put, List.setIfInBounds_toArray, List.set_cons_zero, List.set_cons_succ, i64_w, i32_w]
 rfl
 }
 refine pure_ (i := 4) (N := some 56) (v := ?_) (a' := ?_) #[true, true, false, false, true, false, false, false, false, false, false] rfl rfl (any_of HT_.out (by kernel_rfl)) (fun _ _ _ h => h) (Or.inl ⟨by rfl, ?_⟩) ?_ ?_
 rotate_left
 {
 intro w'
 go_simp
 with_reducible rfl
 }
 rotate_left
 {
 simp only [Act.put, List.setIfInBounds_toArray, List.set_cons_zero, List.set_cons_succ, i64_w, i32_w]
 rfl
 }
 refine pure_ (i := 7) (N := some 59) (v := ?_) (a' := ?_) #[true, true, false, false, true, false, false, true, false, false, false] rfl rfl (any_of HT_.out (by kernel_rfl)) (fun _ _ _ h => h) (Or.inl ⟨by rfl, ?_⟩) ?_ ?_
 rotate_left
 {
 intro w'
 go_simp
 with_reducible rfl
 }
 rotate_left
 {
 simp only [Act.put, List.setIfInBounds_toArray, List.set_cons_zero, List.set_cons_succ, i64_w, i32_w]
 rfl
 }
 refine take_ (i := 2) (N := some 54) (v := ?_) (a' := ?_) #[true, true, true, false, true, false, false, true, false, false, false] rfl rfl (take_ofW HT_.out HW_.out (by kernel_rfl)) (fun _ _ _ h => h) (Or.inl ⟨by rfl, ?_⟩) hHeld ?_ ?_
 rotate_left
 {
 rintro w' ⟨s0, s1, s2, s3, s4, s5, s6, s7, s8, s9, cZ⟩
 go_simp
 with_reducible rfl
 }
 rotate_left
 {
 simp only [Act.put, List.setIfInBounds_toArray, List.set_cons_zero, List.set_cons_succ, i64_w, i32_w]
 rfl
 }
 refine take_ (i := 5) (N := some 57) (v := ?_) (a' := ?_) #[true, true, true, false, true, true, false, true, false, false, false] rfl rfl (take_ofW HT_.out HW_.out (by kernel_rfl)) (fun _ _ _ h => h) (Or.inl ⟨by rfl, ?_⟩) hHeld ?_ ?_
 rotate_left
 {
 rintro w' ⟨s0, s1, s2, s3, s4, s5, s6, s7, s8, s9, cZ⟩
 go_simp
 with_reducible rfl
 }
 rotate_left
 {
 simp only [Act.put, List.setIfInBounds_toArray, List.set_cons_zero, List.set_cons_succ, i64_w, i32_w]
 rfl
 }
 refine take_ (i := 8) (N := some 60) (v := ?_) (a' := ?_) #[true, true, true, false, true, true, false, true, true, false, false] rfl rfl (take_ofW HT_.out HW_.out (by kernel_rfl)) (fun _ _ _ h => h) (Or.inl ⟨by rfl, ?_⟩) hHeld ?_ ?_
 rotate_left
 {
 rintro w' ⟨s0, s1, s2, s3, s4, s5, s6, s7, s8, s9, cZ⟩
 go_simp
 with_reducible rfl
 }
 rotate_left
 {
 simp only [Act.put, List.setIfInBounds_toArray, List.set_cons_zero, List.set_cons_succ, i64_w, i32_w]
 rfl
 }
 refine one_ (i := 3) (N := some 55) #[true, true, true, true, true, true, false, true, true, false, false] rfl rfl (one_of HT_.out (by kernel_rfl)) (by decide) (fun K hK => ?_)
 refine goes_ Try.func54 (by kernel_rfl) rfl #[.slice cp cm.length cq, .int .i64 4, .int .i64 am] (by rfl) rfl rfl wT ?_
 with_reducible refine (impl_put.calls ar (fun k_ => some k_ = (.slice cp cm.length cq : Value).ownBlock) (.slice cp cm.length cq) cm 4 am aI w _ ?side1 ?side2 A2005.out).mono ?_
 (case side1 => repeat (first | (with_reducible first | exact HB.out | apply below_alloc | apply pw_below_drewN | apply below_drew1 | refine below_set ?_ aV.out) | exact HB.out))
 (case side2 => exact Kd.R_tight rfl ax.out)
 rintro e dX ⟨dL, rfl, av, hb, hkp⟩
 refine ⟨_, rfl, ?_⟩
 have n0_ := Aside0.mk (blk_kept (Bh aa) hkp (fun hs_ => (fun e_ => (Kd.R_ne ax.out aa.out (by decide)) e_) hs_))
 have n1_ := Aside0.mk (Kd.R_mono (ok' := fun k_ => some k_ ≠ (dL : Value).ownBlock) (Kd.R_keptB (af.out) hkp (fun k_ hk_ hs_ => (hk_.2) hs_)) (fun k_ hk_ => fun e_ => Or.elim (av.1 k_ e_.symm) (fun hs_ => hk_.2.1 hs_) (fun hn_ => Nat.not_le.2 hk_.2.2 hn_)))
 have n2_ := Aside0.mk (Kd.R_mono (ok' := fun k_ => some k_ ≠ (.slice a6 aH.length a7 : Value).ownBlock) av (fun k_ hk_ => Or.elim hk_ (fun hs_ => fun e_ => (((af.out).1 k_ e_.symm).2) hs_) (fun hn_ => (Kd.fresh' (Kd.R_lt (Rh af)) k_ hn_))))
 have n3_ := Aside0.mk (hb)
 clear aa
 clear af
 clear HB
 clear ax
 have aa := n0_
 have af := n1_
 have cf := n2_
 have HB := n3_
 clear n0_ n1_ n2_ n3_
 (try clear hb)
 (try clear hkp)
 (try clear av)
 obtain ⟨cr, cs, cV⟩ := Kd.R_slice cf.out
 (first | subst cV | (injection cV with f1_ f2_ f3_; have f4_ := f1_.symm; have f5_ := f3_.symm; clear f1_ f2_ f3_; subst f4_; subst f5_))
 refine hK.out _ _ ⟨(blk_cell aa.out 0).trans rfl, (blk_cell aa.out 1).trans rfl, (blk_cell aa.out 2).trans rfl, (blk_cell aa.out 3).trans rfl, (blk_cell aa.out 4).trans rfl, (blk_cell aa.out 5).trans rfl, (blk_cell aa.out 6).trans rfl, (blk_cell aa.out 7).trans rfl, (blk_cell aa.out 8).trans rfl, (blk_cell aa.out 9).trans rfl, (blk_cell aa.out 10).trans rfl⟩ (fun hHeld => ?_)
 clear hK K
 refine norm_ (a' := ?_) ?_ ?_
 rotate_left
 {
 show Act.put _ (some 55) _ = _
 simp only [Act.put, List.setIfInBounds_toArray, List.set_cons_zero, List.set_cons_succ, i64_w, i32_w]
 rfl
 }
 refine one_ (i := 6) (N := some 58) #[true, true, true, true, true, true, true, true, true, false, false] rfl rfl (one_of HT_.out (by kernel_rfl)) (by decide) (fun K hK => ?_)
 refine goes_ Try.func54 (by kernel_rfl) rfl #[.slice cr aI.length cs, .int .i64 4, .int .i64 an] (by rfl) rfl rfl wT ?_
 with_reducible refine (impl_put.calls ar (fun k_ => some k_ = (.slice cr aI.length cs : Value).ownBlock) (.slice cr aI.length cs) aI 4 an aA w _ ?side1 ?side2 A2006.out).mono ?_
 (case side1 => repeat (first | (with_reducible first | exact HB.out | apply below_alloc | apply pw_below_drewN | apply below_drew1 | refine below_set ?_ aV.out) | exact HB.out))
 (case side2 => exact Kd.R_tight rfl cf.out)
 rintro e dY ⟨dg, rfl, av, hb, hkp⟩
 refine ⟨_, rfl, ?_⟩
 have n0_ := Aside0.mk (blk_kept (Bh aa) hkp (fun hs_ => (fun e_ => (Kd.R_ne cf.out aa.out (by decide)) e_) hs_))
 have n1_ := Aside0.mk (Kd.R_mono (ok' := fun k_ => some k_ ≠ (dg : Value).ownBlock) (Kd.R_keptB (af.out) hkp (fun k_ hk_ hs_ => (hk_) hs_)) (fun k_ hk_ => fun e_ => Or.elim (av.1 k_ e_.symm) (fun hs_ => hk_.2.1 hs_) (fun hn_ => Nat.not_le.2 hk_.2.2 hn_)))
 have n2_ := Aside0.mk (Kd.R_mono (ok' := fun k_ => some k_ ≠ (.slice a6 aH.length a7 : Value).ownBlock) av (fun k_ hk_ => Or.elim hk_ (fun hs_ => fun e_ => (((af.out).1 k_ e_.symm)) hs_) (fun hn_ => (Kd.fresh' (Kd.R_lt (Rh af)) k_ hn_))))
 have n3_ := Aside0.mk (hb)
 clear aa
 clear af
 clear HB
 clear cf
 have aa := n0_
 have af := n1_
 have cw := n2_
 have HB := n3_
 clear n0_ n1_ n2_ n3_
 (try clear hb)
 (try clear hkp)
 (try clear av)
 refine hK.out _ _ ⟨(blk_cell aa.out 0).trans rfl, (blk_cell aa.out 1).trans rfl, (blk_cell aa.out 2).trans rfl, (blk_cell aa.out 3).trans rfl, (blk_cell aa.out 4).trans rfl, (blk_cell aa.out 5).trans rfl, (blk_cell aa.out 6).trans rfl, (blk_cell aa.out 7).trans rfl, (blk_cell aa.out 8).trans rfl, (blk_cell aa.out 9).trans rfl, (blk_cell aa.out 10).trans rfl⟩ (fun hHeld => ?_)
 clear hK K
 refine norm_ (a' := ?_) ?_ ?_
 rotate_left
 {
 show Act.put _ (some 58) _ = _
 simp only [Act.put, List.setIfInBounds_toArray, List.set_cons_zero, List.set_cons_succ, i64_w, i32_w]
 rfl
 }
 refine one_ (i := 9) (N := some 61) #[true, true, true, true, true, true, true, true, true, true, false] rfl rfl (one_of HT_.out (by kernel_rfl)) (by decide) (fun K hK => ?_)
 refine Kd.R_append_rows_step (Kd.int .u8) (w0 := w) w.heap.size (by rfl) (.tmp 58) (.tmp 60) 22 5 (.int .u8 0) 1 rfl Try.underlying22 info5 rfl (by decide) (by omega) dg aA ab _ _ _ (fun k_ => some k_ ≠ (.slice a6 aH.length a7 : Value).ownBlock) (fun _ => False) rfl rfl ?aO ?aR (fun _ _ h => h) (fun _ h => h.elim) ?aF ?aB ?aS ?aL ?_
 (case aR => exact Kd.C_below HR0_9.out wB)
 (case aB => exact wB)
 (case aF => exact (fun k_ hk => Kd.fresh' (Kd.R_lt (Rh af)) k_ hk))
 (case aO => exact (Rh cw))
 (case aS => exact (below_size wB))
 (case aL => have := LMc2007.out; omega)
 intro d3 ay ho hb hg hat
 rw [← Ny168.out] at ho
 have n0_ := Aside0.mk (blk_grown (Bh aa) hg (Kd.R_ne cw.out aa.out (by decide)))
 have n1_ := Aside0.mk (Kd.R_after (ok := (fun _ => True)) (Kd.R_mono (Rh af) (fun _ hk => ⟨trivial, hk⟩)) hg hat)
 have n2_ := Aside0.mk (hb)
 have n3_ := Aside0.mk (ho)
 clear aa
 clear af
 clear HB
 clear cw
 have aa := n0_
 have af := n1_
 have HB := n2_
 have ac := n3_
 clear n0_ n1_ n2_ n3_
 clear ho hb hg hat
 refine hK.out _ _ ⟨(blk_cell aa.out 0).trans rfl, (blk_cell aa.out 1).trans rfl, (blk_cell aa.out 2).trans rfl, (blk_cell aa.out 3).trans rfl, (blk_cell aa.out 4).trans rfl, (blk_cell aa.out 5).trans rfl, (blk_cell aa.out 6).trans rfl, (blk_cell aa.out 7).trans rfl, (blk_cell aa.out 8).trans rfl, (blk_cell aa.out 9).trans rfl, (blk_cell aa.out 10).trans rfl⟩ (fun hHeld => ?_)
 clear hK K
 refine norm_ (a' := ?_) ?_ ?_
 rotate_left
 {
 show Act.put _ (some 61) _ = _
 simp only [Act.put, List.setIfInBounds_toArray, List.set_cons_zero, List.set_cons_succ, i64_w, i32_w]
 rfl
 }
 refine pure_ (i := 10) (N := some 4) (v := ?_) (a' := ?_) #[true, true, true, true, true, true, true, true, true, true, true] rfl rfl (any_of HT_.out (by kernel_rfl)) (fun _ _ _ h => h) (Or.inl ⟨by rfl, ?_⟩) ?_ ?_
 rotate_left
 {
 intro w'
 go_simp
 with_reducible rfl
 }
 rotate_left
 {
 simp only [Act.put, List.setIfInBounds_toArray, List.set_cons_zero, List.set_cons_succ, i64_w, i32_w]
 rfl
 }
 refine done_ (done_of HT_.out (by kernel_rfl)) ?_
 have n_ := Aside0.mk (Kd.R_mono (ok' := (fun _ => True)) ac.out (fun k_ hk => trivial))
 clear ac
 have ac := n_
 clear n_
 (try clear af)
 obtain ⟨dh, ct, di⟩ := Kd.R_slice ac.out
 subst di
 try go_wp2_with (first | ((with_reducible refine gate_callee (f := 38) rfl ?_); refine gL (some 63) Try.func38 #[.slice dh ag.length ct] ?_; (with_reducible refine (impl_Checksum.calls ar _ _ ag ap _ ?side1 ?side2 A2008.out).mono ?_); (case side1 => exact Ch ac); (case side2 => exact (Kd.R_reads' ac.out).2.1); rintro e w' ⟨rfl, ⟨nd, rfl⟩⟩; refine ⟨_, rfl, ?_⟩; (try (rw [drewN_self ay]; generalize hq_ : World.drewN ay _ = ay; replace ac := Aside0.mk (Kd.R_at hq_ ac.out); replace aa := Aside0.mk (blk_at hq_ aa.out); replace HB := Aside0.mk (below_at hq_ HB.out); clear hq_; (try (obtain ⟨⟨a8, a9, ba, bb, bc, bd, be, bf, bg, bh, aN⟩, bi, bj, bk, bl, bm, bn, bo, bp, bq, br, aP⟩ := cells11 aa.out)))); have p2010 : 0 ≤ (10 : Int) := (by omega); have q2010 : (10 : Int) < ((ag.length : Int) : Int) := dT; have qi2010 : (10 < ag.length) = True := eq_true (by omega); obtain ⟨go2010, dN, cW, cX, gl2010, cl2010, HG2010⟩ := Kd.R_form ac.out (by omega); (first | cases cW | (injection cW with ea_ en_ ec_; (first | subst ea_ | (injection ea_ with ea_; subst ea_)); subst ec_; clear en_)); have GB2010 := Aside0.mk cX; have GG2010 := Aside0.mk HG2010; clear cX gl2010 HG2010; obtain ⟨hx2010_0, hf2010_0⟩ := Kd.R_celln 0 ac.out (10 : Int) p2010 q2010; (try rw [show ((10 : Int)).toNat = 10 from rfl] at hx2010_0); (try simp only [Nat.reduceMul, Nat.zero_mul, Nat.zero_add, Nat.reduceAdd] at hx2010_0); (try rw [show ((10 : Int)).toNat = 10 from rfl] at hf2010_0); (try simp only [Nat.reduceMul, Nat.zero_mul, Nat.zero_add, Nat.reduceAdd] at hf2010_0); replace p2010 := eq_true p2010; replace q2010 := eq_true q2010; obtain ⟨hy3015_, hz3015_⟩ := Kd.R_celln 0 ac.out (10 : Int) (by omega) dT; (try simp only [Int.reduceToNat, Int.toNat_zero, Int.toNat_ofNat, Nat.reduceMul, Nat.zero_mul, Nat.zero_add] at hy3015_ hz3015_); (try rw [show ((10 : Int)).toNat = 10 from rfl] at hy3015_); (try rw [show ((10 : Int)).toNat = 10 from rfl] at hz3015_); have HP3015 := Kd.R_putg ac.out (10 : Int) ((ap / 256) % 256)) | ((with_reducible refine gate_store (t := 5) (p := 71) rfl ?_); (try (rw [drewN_self ay]; generalize hq_ : World.drewN ay _ = ay; replace ac := Aside0.mk (Kd.R_at hq_ ac.out); replace aa := Aside0.mk (blk_at hq_ aa.out); replace HB := Aside0.mk (below_at hq_ HB.out); clear hq_; (try (obtain ⟨⟨a8, a9, ba, bb, bc, bd, be, bf, bg, bh, aN⟩, bi, bj, bk, bl, bm, bn, bo, bp, bq, br, aP⟩ := cells11 aa.out)); (try (obtain ⟨hy3015_, hz3015_⟩ := Kd.R_celln 0 ac.out (10 : Int) (by omega) dT)); (try (try simp only [Int.reduceToNat, Int.toNat_zero, Int.toNat_ofNat, Nat.reduceMul, Nat.zero_mul, Nat.zero_add] at hy3015_ hz3015_)); (try (try rw [show ((10 : Int)).toNat = 10 from rfl] at hy3015_)); (try (try rw [show ((10 : Int)).toNat = 10 from rfl] at hz3015_)); (try (have HP3015 := Kd.R_putg ac.out (10 : Int) ((ap / 256) % 256))))); refine storeE (ay.setCell ⟨go2010, (10 : Int).toNat, none⟩ (.int .u8 ((ap / 256) % 256))) ?_; intro az hw; have hg : ay.grownBy az (some go2010) := (by rw [hw]; exact HP3015.2); have hp_ : Kd.R (Kd.int .u8) 5 az w.heap.size (fun _ => True) (.slice (some ⟨go2010, 0, none⟩) ag.length ct) cY := (by rw [hw, Ny172.out]; exact HP3015.1); clear HP3015; replace aa := Aside0.mk (blk_grown (Bh aa) hg (Kd.R_ne ac.out aa.out (by decide))); replace ac := Aside0.mk (hp_); replace HB := Aside0.mk ((by rw [hw]; exact below_set (HB.out) GB2010.out : Below w.heap.size w az)); clear hg hw hp_; have p2012 : 0 ≤ (11 : Int) := (by omega); have q2012 : (11 : Int) < ((ag.length : Int) : Int) := dT; have qi2012 : (11 < ag.length) = True := eq_true (by omega); obtain ⟨hx2012_0, hf2012_0⟩ := Kd.R_celln 0 ac.out (11 : Int) p2012 q2012; (try rw [show ((11 : Int)).toNat = 11 from rfl] at hx2012_0); (try simp only [Nat.reduceMul, Nat.zero_mul, Nat.zero_add, Nat.reduceAdd] at hx2012_0); (try rw [show ((11 : Int)).toNat = 11 from rfl] at hf2012_0); (try simp only [Nat.reduceMul, Nat.zero_mul, Nat.zero_add, Nat.reduceAdd] at hf2012_0); replace p2012 := eq_true p2012; replace q2012 := eq_true q2012; obtain ⟨hy3017_, hz3017_⟩ := Kd.R_celln 0 ac.out (11 : Int) (by omega) dT; (try simp only [Int.reduceToNat, Int.toNat_zero, Int.toNat_ofNat, Nat.reduceMul, Nat.zero_mul, Nat.zero_add] at hy3017_ hz3017_); (try rw [show ((11 : Int)).toNat = 11 from rfl] at hy3017_); (try rw [show ((11 : Int)).toNat = 11 from rfl] at hz3017_); have HP3017 := Kd.R_putg ac.out (11 : Int) ((ap) % 256)) | ((with_reducible refine gate_store (t := 5) (p := 72) rfl ?_); (try (rw [drewN_self az]; generalize hq_ : World.drewN az _ = az; replace ac := Aside0.mk (Kd.R_at hq_ ac.out); replace aa := Aside0.mk (blk_at hq_ aa.out); replace HB := Aside0.mk (below_at hq_ HB.out); clear hq_; (try (obtain ⟨⟨a8, a9, ba, bb, bc, bd, be, bf, bg, bh, aN⟩, bi, bj, bk, bl, bm, bn, bo, bp, bq, br, aP⟩ := cells11 aa.out)); (try (obtain ⟨hy3017_, hz3017_⟩ := Kd.R_celln 0 ac.out (11 : Int) (by omega) dT)); (try (try simp only [Int.reduceToNat, Int.toNat_zero, Int.toNat_ofNat, Nat.reduceMul, Nat.zero_mul, Nat.zero_add] at hy3017_ hz3017_)); (try (try rw [show ((11 : Int)).toNat = 11 from rfl] at hy3017_)); (try (try rw [show ((11 : Int)).toNat = 11 from rfl] at hz3017_)); (try (have HP3017 := Kd.R_putg ac.out (11 : Int) ((ap) % 256))))); refine storeE (az.setCell ⟨go2010, (11 : Int).toNat, none⟩ (.int .u8 ((ap) % 256))) ?_; intro cx hw; have hg : az.grownBy cx (some go2010) := (by rw [hw]; exact HP3017.2); have hp_ : Kd.R (Kd.int .u8) 5 cx w.heap.size (fun _ => True) (.slice (some ⟨go2010, 0, none⟩) ag.length ct) dd := (by rw [hw, Ny173.out]; exact HP3017.1); clear HP3017; replace aa := Aside0.mk (blk_grown (Bh aa) hg (Kd.R_ne ac.out aa.out (by decide))); replace ac := Aside0.mk (hp_); replace HB := Aside0.mk ((by rw [hw]; exact below_set (HB.out) GB2010.out : Below w.heap.size w cx)); clear hg hw hp_))
 go_ret
 exact ⟨_, eR, by (with_reducible repeat (first | apply Kd.R_alloc | apply Kd.R_drewN | apply Kd.R_drew)); exact ac.out, wB⟩
 }
 {
 rw [if_neg ce] at H
 exact absurd H (by simp)
 }
 }
 {
 rw [if_neg cd] at H
 exact absurd H (by simp)
 }
 }
 {
 rw [if_neg cc] at H
 exact absurd H (by simp)
 }
 }
 {
 rw [if_neg cb] at H
 exact absurd H (by simp)
 }
 }
 )
 }
 )

end Go.Proofs.Ytckhadlmhbhngaa.PFnComplain
