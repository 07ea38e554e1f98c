-- Written for this claim by a program of this session (wip/mkprint.py: the print, turned at a few places). Not trusted: Lean checks it.
import Derived.Test.YtckhadlmhbhngaaPFnComplainx0
import Derived.Test.YtckhadlmhbhngaaPFnComplainx9
import Derived.Test.YtckhadlmhbhngaaPFnComplainx10
namespace Go.Proofs.Ytckhadlmhbhngaa.PFnComplain
open Go.RowKit Go.Proofs.YtckhadlmhbhngaaW.PrintWords Go.Proofs.YtckhadlmhbhngaaW.PrintLast Go.Proofs.YtckhadlmhbhngaaW.PrintMore
attribute [local go_sem] max2_int min2_int max_two min_two max_three min_three max_four min_four   -- for this text's walks alone
set_option linter.unusedVariables false
set_option linter.unusedSimpArgs false

/-! ### spec_EncodeIcmp: function 61 -/
def spec_EncodeIcmp.j0 : Nat → Bool → Int → Int → Int → List Int → Option (List Int × Int)
  | 0, _, _, _, _, _ => none
  | k + 1, ai, ac, ad, ae, aa => if ai = true then (none) else (if (aa.length : Int) > 65000 then (none) else ((spec_l03Put.f k ae 4).bind fun ag => ((spec_l01Join.f k (([(ac) % 256, (ad) % 256, 0, 0] : List Int)) ag).bind fun ah => ((spec_l01Join.f k ah aa).bind fun ab => ((spec_Checksum.f k ab).bind fun af => (if 2 < (ab.length : Int) then (if 3 < (ab.length : Int) then (some (((ab.set (2 : Int).toNat ((af / 256) % 256)).set (3 : Int).toNat ((af) % 256)), 0)) else (none)) else (none)))))))
def spec_EncodeIcmp.f (k : Nat) (aa : Int) (ab : Int) (ac : Int) (ad : List Int) : Option (List Int × Int) := (spec_l01In.f aa 0 255).bind fun ae => (if ae = true then ((spec_l01In.f ab 0 255).bind fun af => (if af = true then ((spec_l01In.f ac 0 4294967295).bind fun ag => (spec_EncodeIcmp.j0 k (!ag) aa ab ac ad)) else (spec_EncodeIcmp.j0 k true aa ab ac ad))) else (spec_EncodeIcmp.j0 k true aa ab ac ad))
theorem spec_EncodeIcmp.mono_l : ∀ k, (∀ y0 y1 y2 y3 y4, LeO (spec_EncodeIcmp.j0 k y0 y1 y2 y3 y4) (spec_EncodeIcmp.j0 (k + 1) y0 y1 y2 y3 y4))
  | 0 => fun _ _ _ _ _ r h => by simp [spec_EncodeIcmp.j0] at h
  | k + 1 => by
    have ih0 := spec_EncodeIcmp.mono_l k
    · intro y0 y1 y2 y3 y4
      unfold spec_EncodeIcmp.j0
      repeat' first
      | (with_reducible exact ih0 _ _ _ _ _)
      | (with_reducible exact spec_Checksum.mono _ _)
      | (with_reducible exact spec_l01Join.mono _ _ _)
      | (with_reducible exact spec_l03Put.mono _ _ _)
      | (with_reducible exact LeO.refl _)
      | (with_reducible exact LeO.none _)
      | (with_reducible refine LeO.ite ?_ ?_)
      | (with_reducible refine LeO.bind ?_ (fun _ => ?_))
      | exact ih0 _ _ _ _ _
      | exact spec_Checksum.mono _ _
      | exact spec_l01Join.mono _ _ _
      | exact spec_l03Put.mono _ _ _
      | exact LeO.none _
      | refine LeO.ite ?_ ?_
      | refine LeO.bind ?_ (fun _ => ?_)
theorem spec_EncodeIcmp.mono : ∀ a0 a1 a2 a3 k, LeO (spec_EncodeIcmp.f k a0 a1 a2 a3) (spec_EncodeIcmp.f (k + 1) a0 a1 a2 a3) := by
 intro a0 a1 a2 a3 k
 have ih0 := spec_EncodeIcmp.mono_l k
 unfold spec_EncodeIcmp.f
 repeat' first
     | (with_reducible exact ih0 _ _ _ _ _)
     | (with_reducible exact spec_Checksum.mono _ _)
     | (with_reducible exact spec_l01Join.mono _ _ _)
     | (with_reducible exact spec_l03Put.mono _ _ _)
     | (with_reducible exact LeO.refl _)
     | (with_reducible exact LeO.none _)
     | (with_reducible refine LeO.ite ?_ ?_)
     | (with_reducible refine LeO.bind ?_ (fun _ => ?_))
     | exact ih0 _ _ _ _ _
     | exact spec_Checksum.mono _ _
     | exact spec_l01Join.mono _ _ _
     | exact spec_l03Put.mono _ _ _
     | exact LeO.none _
     | refine LeO.ite ?_ ?_
     | refine LeO.bind ?_ (fun _ => ?_)
def spec_EncodeIcmp.T5 : Bool × List (List Nat × List Nat) := (true, [([], []), ([0], [0]), ([1], [1]), ([], []), ([3], [3]), ([4], [4]), ([2, 5], [2, 5]), ([], []), ([7], [7]), ([8], [8]), ([6, 9, 9], [6, 9]), ([10, 10, 0, 1, 2, 3, 4, 5, 6, 7, 8, 9, 10], [10])])
def spec_EncodeIcmp.B5 : List Nat := [0, 1, 3, 0, 8, 24, 63, 0, 128, 384, 1023, 2047]
theorem spec_EncodeIcmp.tab5 : rtab .any (opsOf Try.f61 5) = spec_EncodeIcmp.T5 := by kernel_rfl
theorem spec_EncodeIcmp.bits5 : waitsOk spec_EncodeIcmp.T5.2 spec_EncodeIcmp.B5 = true := by kernel_rfl
set_option maxHeartbeats 60000000 in
set_option maxRecDepth 100000 in
theorem spec_EncodeIcmp.calls (k : Nat) (ac : Int) (ad : Int) (ae : Int) (A0_3 : Option Addr) (aw : Nat) (af : List Int) (r1 : List Int) (r2 : Int) (w : World) (hr0_3 : Kd.C (Kd.int .u8) w A0_3 af.length af) (hc0_3 : af.length ≤ aw) (h : spec_EncodeIcmp.f k ac ad ae af = some (r1, r2)) :
 Calls Try.prog 61 #[.agg #[.int .i64 ac, .int .i64 ad, .int .i64 ae, .slice A0_3 af.length aw]] w fun e w' => ∃ v0_ : Value, e = .returned (.tuple #[v0_, .int .i64 r2]) ∧ Kd.R (Kd.int .u8) 5 w' w.heap.size (fun _ => True) v0_ r1 ∧ Below w.heap.size w w' := by
 have hu52 := Try.underlying52
 have HR0_3 := Aside0.mk hr0_3
 have bm := Aside0.mk hc0_3
 clear hr0_3 hc0_3
 have HB := Aside0.mk (Below.refl w.heap.size w)
 have H : ((spec_l01In.f ac 0 255).bind fun bd => (if bd = true then ((spec_l01In.f ad 0 255).bind fun a1 => (if a1 = true then ((spec_l01In.f ae 0 4294967295).bind fun ay => (spec_EncodeIcmp.j0 k (!ay) ac ad ae af)) else (spec_EncodeIcmp.j0 k true ac ad ae af))) else (spec_EncodeIcmp.j0 k true ac ad ae af))) = some (r1, r2) := h
 clear h
 have bf := Aside0.mk H
 clear H
 go_enter Try.func61, Try.ntmps61
 go_upto_region 1 with (first | ((with_reducible refine gate_dst (N := 1) rfl ?_); refine boxE 1 #[.int .i64 ac, .int .i64 ad, .int .i64 ae, .slice A0_3 af.length aw] 52 ?_; intro ak hg bC hbox hb; have aa := Aside0.mk (hbox); have bn := Aside0.mk ((by rw [hg]; exact (below_size wB) : w.heap.size ≤ ak)); replace HB := Aside0.mk (below_step wB hb); have bD := bn; clear hb hbox hg))
 (try simp only [Act.put, List.setIfInBounds_toArray, List.set_cons_zero, List.set_cons_succ])
 go_cut [21] (fun bA wc => ∃ (kq : Nat) (aW : Bool), bA = .bool aW ∧ Aside0 (spec_EncodeIcmp.j0 kq aW ac ad ae af = some (r1, r2)) ∧ Aside0 (kq ≤ k) ∧ Aside0 (wc.heap[ak]? = some (.cells #[.int .i64 ac, .int .i64 ad, .int .i64 ae, (.slice A0_3 af.length aw)] 52 (0, 0))) ∧ Aside0 (Below w.heap.size w wc))
 case first => (
 have H := bf.out
 clear bf
 replace H := Option.bind_eq_some_iff.mp H
 obtain ⟨bd, A10020, H⟩ := H
 have A1002 := Aside0.mk A10020
 clear A10020
 by_cases aA : bd = true
 subst aA
 have H1 : ((spec_l01In.f ad 0 255).bind fun a1 => (if a1 = true then ((spec_l01In.f ae 0 4294967295).bind fun ay => (spec_EncodeIcmp.j0 k (!ay) ac ad ae af)) else (spec_EncodeIcmp.j0 k true ac ad ae af))) = some (r1, r2) := by rw [if_pos rfl] at H; exact H
 clear H
 have H := H1
 clear H1
 replace H := Option.bind_eq_some_iff.mp H
 obtain ⟨a1, A10040, H⟩ := H
 have A1004 := Aside0.mk A10040
 clear A10040
 by_cases aB : a1 = true
 subst aB
 have H1 : ((spec_l01In.f ae 0 4294967295).bind fun ay => (spec_EncodeIcmp.j0 k (!ay) ac ad ae af)) = some (r1, r2) := by rw [if_pos rfl] at H; exact H
 clear H
 have H := H1
 clear H1
 replace H := Option.bind_eq_some_iff.mp H
 obtain ⟨ay, A10060, H⟩ := H
 have A1006 := Aside0.mk A10060
 clear A10060
 have H' := Aside0.mk H
 clear H
 rotate_left
 replace aB := Bool.eq_false_iff.mpr aB
 subst aB
 have H1 : (spec_EncodeIcmp.j0 k true ac ad ae af) = some (r1, r2) := by rw [if_neg (show ¬ (false = true) by decide)] at H; exact H
 clear H
 have H := H1
 clear H1
 have H' := Aside0.mk H
 clear H
 rotate_left
 replace aA := Bool.eq_false_iff.mpr aA
 subst aA
 have H1 : (spec_EncodeIcmp.j0 k true ac ad ae af) = some (r1, r2) := by rw [if_neg (show ¬ (false = true) by decide)] at H; exact H
 clear H
 have H := H1
 clear H1
 have H' := Aside0.mk H
 clear H
 rotate_left
 all_goals (
 obtain ⟨⟨aO, aP, aQ, aR⟩, aS, aT, aU, aV⟩ := cells4 aa.out
 go_wp2_with (first | ((with_reducible refine gate_callee (f := 60) rfl ?_); refine gL (some 8) Try.func60 #[.int .i64 ac, .int .i64 0, .int .i64 255] ?_; (with_reducible refine (spec_l01In.calls ac 0 255 _ _ A1002.out).mono ?_); rintro e w' ⟨rfl, ⟨nd, rfl⟩⟩; refine ⟨_, rfl, ?_⟩) | (go_at_call 60; (with_reducible refine (spec_l01In.calls ad 0 255 _ _ A1004.out).mono ?_); rintro e w' ⟨rfl, ⟨nd, rfl⟩⟩) | (go_at_call 60; (with_reducible refine (spec_l01In.calls ae 0 4294967295 ay _ A1006.out).mono ?_); rintro e w' ⟨rfl, ⟨nd, rfl⟩⟩))
 go_meet
 )
 {
 case rel => exact ⟨_, (!ay), eS, H', ⟨by first | omega | exact Nat.le_refl _⟩, ⟨Bh aa⟩, ⟨wB⟩⟩
 }
 all_goals (
 case rel => exact ⟨_, (true), eS, H', ⟨by first | omega | exact Nat.le_refl _⟩, ⟨Bh aa⟩, ⟨wB⟩⟩
 )
 )
 case rest => (
 clear bf
 try clear c0
 try clear aA
 try clear aB
 try clear aO aP aQ aR aS aT aU aV
 obtain ⟨kq, aW, rfl, HA, HJ1, aa, HB⟩ := hcut
 cases kq with
 | zero => exact absurd HA.out (by simp [spec_EncodeIcmp.j0])
 | succ ax => {
 have H := HA.out
 clear HA
 simp only [spec_EncodeIcmp.j0] at H
 by_cases aX : aW = true
 {
 subst aX
 have H1 : (none) = some (r1, r2) := by rw [if_pos rfl] at H; exact H
 clear H
 have H := H1
 clear H1
 exact absurd H (by simp)
 }
 {
 replace aX := Bool.eq_false_iff.mpr aX
 subst aX
 have H1 : (if (af.length : Int) > 65000 then (none) else ((spec_l03Put.f ax ae 4).bind fun au => ((spec_l01Join.f ax (([(ac) % 256, (ad) % 256, 0, 0] : List Int)) au).bind fun az => ((spec_l01Join.f ax az af).bind fun ag => ((spec_Checksum.f ax ag).bind fun ao => (if 2 < (ag.length : Int) then (if 3 < (ag.length : Int) then (some (((ag.set (2 : Int).toNat ((ao / 256) % 256)).set (3 : Int).toNat ((ao) % 256)), 0)) else (none)) else (none))))))) = some (r1, r2) := by rw [if_neg (show ¬ (false = true) by decide)] at H; exact H
 clear H
 have H := H1
 clear H1
 by_cases aY : (af.length : Int) > 65000
 {
 rw [if_pos aY] at H
 exact absurd H (by simp)
 }
 {
 rw [if_neg aY] at H
 have c1008b0 : decide (65000 < (af.length : Int)) = false := decide_eq_false aY
 have c1008b1 : decide (65000 < af.length) = false := decide_eq_false (by omega)
 clear aY
 obtain ⟨aN, aC⟩ : ∃ y_ : List Int, y_ = (([(ac) % 256, (ad) % 256, 0, 0] : List Int)) := ⟨_, rfl⟩
 replace H : ((spec_l03Put.f ax ae 4).bind fun au => ((spec_l01Join.f ax aN au).bind fun az => ((spec_l01Join.f ax az af).bind fun ag => ((spec_Checksum.f ax ag).bind fun ao => (if 2 < (ag.length : Int) then (if 3 < (ag.length : Int) then (some (((ag.set (2 : Int).toNat ((ao / 256) % 256)).set (3 : Int).toNat ((ao) % 256)), 0)) else (none)) else (none)))))) = some (r1, r2) := by first | (rw [aC]; with_reducible exact H) | (have H2_ := (Option.bind_some _ _).symm.trans H; rw [aC]; with_reducible exact H2_) | (have H2_ := (Option.bind_some _ _).symm.trans H; with_reducible exact H2_) | with_reducible exact H | (rw [aC]; exact H) | exact H
 have Ny342 := Aside0.mk aC
 clear aC
 replace H := Option.bind_eq_some_iff.mp H
 obtain ⟨au, A10090, H⟩ := H
 have A1009 := Aside0.mk A10090
 clear A10090
 replace H := Option.bind_eq_some_iff.mp H
 obtain ⟨az, A10100, H⟩ := H
 have A1010 := Aside0.mk A10100
 clear A10100
 replace H := Option.bind_eq_some_iff.mp H
 obtain ⟨ag, A10110, H⟩ := H
 have A1011 := Aside0.mk A10110
 clear A10110
 replace H := Option.bind_eq_some_iff.mp H
 obtain ⟨ao, A10120, H⟩ := H
 have A1012 := Aside0.mk A10120
 clear A10120
 by_cases aZ : 2 < (ag.length : Int)
 {
 rw [if_pos aZ] at H
 have c1013b0 : decide (2 < (ag.length : Int)) = true := decide_eq_true aZ
 have c1013b1 : decide (2 < ag.length) = true := decide_eq_true (by omega)
 clear aZ
 obtain ⟨be, aD⟩ : ∃ y_ : List Int, y_ = (ag.set (2 : Int).toNat ((ao / 256) % 256)) := ⟨_, rfl⟩
 replace H : (if 3 < (ag.length : Int) then (some ((be.set (3 : Int).toNat ((ao) % 256)), 0)) else (none)) = some (r1, r2) := by first | (rw [aD]; with_reducible exact H) | (have H2_ := (Option.bind_some _ _).symm.trans H; rw [aD]; with_reducible exact H2_) | (have H2_ := (Option.bind_some _ _).symm.trans H; with_reducible exact H2_) | with_reducible exact H | (rw [aD]; exact H) | exact H
 have Ny355 := Aside0.mk aD
 clear aD
 by_cases a0 : 3 < (ag.length : Int)
 {
 rw [if_pos a0] at H
 have c1015b0 : decide (3 < (ag.length : Int)) = true := decide_eq_true a0
 have c1015b1 : decide (3 < ag.length) = true := decide_eq_true (by omega)
 clear a0
 obtain ⟨bg, aE⟩ : ∃ y_ : List Int, y_ = (be.set (3 : Int).toNat ((ao) % 256)) := ⟨_, rfl⟩
 replace H : (some (bg, 0)) = some (r1, r2) := by first | (rw [aE]; with_reducible exact H) | (have H2_ := (Option.bind_some _ _).symm.trans H; rw [aE]; with_reducible exact H2_) | (have H2_ := (Option.bind_some _ _).symm.trans H; with_reducible exact H2_) | with_reducible exact H | (rw [aE]; exact H) | exact H
 have Ny356 := Aside0.mk aE
 clear aE
 simp only [Option.some.injEq, Prod.mk.injEq] at H
 obtain ⟨rfl, rfl⟩ := H
 obtain ⟨⟨aO, aP, aQ, aR⟩, aS, aT, aU, aV⟩ := cells4 aa.out
 try go_wp2
 have n0_ := Aside0.mk (blk_drew aa.out)
 have n1_ := Aside0.mk (below_drew1 HB.out)
 clear aa
 clear HB
 have aa := n0_
 have HB := n1_
 clear n0_ n1_
 refine start_ (n := 12) (S := fun w' => True) (ds := []) #[false, false, false, false, false, false, false, false, false, false, false, false] (by kernel_rfl) rfl rfl trivial (fun hHeld => ?_); refine with_tabW spec_EncodeIcmp.tab5 spec_EncodeIcmp.bits5 (fun HT_ HW_ => ?_)
 generalize wc.drew = bE at aa HB hHeld ⊢
 refine pure_ (i := 0) (N := some 26) (v := ?_) (a' := ?_) #[true, false, false, false, false, false, false, false, false, false, false, false] rfl rfl (any_of HT_.out (by kernel_rfl)) (fun _ _ _ h => h) (Or.inl ⟨by rfl, ?_⟩) ?_ ?_
 rotate_left
 {
 intro w'
 go_simp
 with_reducible rfl
 }
 rotate_left
 {
 simp only [Act.put, List.setIfInBounds_toArray, List.set_cons_zero, List.set_cons_succ, i64_w, i32_w]
 rfl
 }
 refine pure_ (i := 3) (N := some 29) (v := ?_) (a' := ?_) #[true, false, false, true, false, false, false, false, false, false, false, false] rfl rfl (any_of HT_.out (by kernel_rfl)) (fun _ _ _ h => h) (Or.inl ⟨by rfl, ?_⟩) ?_ ?_
 rotate_left
 {
 intro w'
 go_simp
 with_reducible rfl
 }
 rotate_left
 {
 simp only [Act.put, List.setIfInBounds_toArray, List.set_cons_zero, List.set_cons_succ, i64_w, i32_w]
 rfl
 }
 refine pure_ (i := 7) (N := some 33) (v := ?_) (a' := ?_) #[true, false, false, true, false, false, false, true, false, false, false, false] rfl rfl (any_of HT_.out (by kernel_rfl)) (fun _ _ _ h => h) (Or.inl ⟨by rfl, ?_⟩) ?_ ?_
 rotate_left
 {
 intro w'
 go_simp
 with_reducible rfl
 }
 rotate_left
 {
 simp only [Act.put, List.setIfInBounds_toArray, List.set_cons_zero, List.set_cons_succ, i64_w, i32_w]
 rfl
 }
 refine inv_at [1, 2, 4, 5, 6, 8, 9, 10, 11] (fun a0_ b a w' => ∃ (ai : Value) (aj : Value) (ah : Value) (m11_ : Value), a = putSel a0_ b [(1, 27, .int .i64 ac), (2, 28, .int .u8 ((ac) % 256)), (4, 30, .int .i64 ad), (5, 31, .int .u8 ((ad) % 256)), (6, 32, ai), (8, 34, .int .i64 ae), (9, 35, aj), (10, 36, ah), (11, 4, m11_)] ∧ (w'.heap[ak]? = some (.cells #[.int .i64 ac, .int .i64 ad, .int .i64 ae, .slice A0_3 af.length aw] 52 (0, 0))) ∧ (Below w.heap.size w w') ∧ (b 6 = true → Kd.R (Kd.int .u8) 5 w' w.heap.size (fun _ => True) ai aN) ∧ (b 9 = true → Kd.R (Kd.int .u8) 5 w' w.heap.size (fun _ => True) aj au) ∧ (b 10 = true → Kd.R (Kd.int .u8) 5 w' w.heap.size (fun _ => True) ah az) ∧ (b 11 = true → (m11_ : Value) = ah)) HT_.out HW_.out (by kernel_rfl) (by kernel_rfl) ?_ ?_ ?_
 {
 exact ⟨.bool false, .bool false, .bool false, .bool false, by simp only [putSel, Bool.false_eq_true, if_false], aa.out, HB.out, fun h_ => absurd h_ (by decide), fun h_ => absurd h_ (by decide), fun h_ => absurd h_ (by decide), fun h_ => absurd h_ (by decide)⟩
 }
 {
 skip
 clear aa HB
 refine steps_cons ?_ ?_
 {
 rintro b a w' ⟨ai, aj, ah, m11_, ha, Q_BK338, Q_HB, Q_HO344, Q_HO347, Q_HO350, Q_X11_⟩ hb_ hon hoff
 refine ⟨_, rfl, fun K hK => ?_⟩
 have e26 : a.tmps[26]? = some (.pointer (some ⟨ak, 0, none⟩)) := by rw [ha]; exact (putSel_off rfl).trans rfl
 replace ha := Aside0.mk ha
 have aa := Aside0.mk Q_BK338
 have HB := Aside0.mk Q_HB
 have hc0_ : w'.cell? ⟨ak, 0, none⟩ = some (.int .i64 ac) := (blk_cell aa.out 0).trans rfl
 have hc1_ : w'.cell? ⟨ak, 1, none⟩ = some (.int .i64 ad) := (blk_cell aa.out 1).trans rfl
 have hc2_ : w'.cell? ⟨ak, 2, none⟩ = some (.int .i64 ae) := (blk_cell aa.out 2).trans rfl
 have hc3_ : w'.cell? ⟨ak, 3, none⟩ = some (.slice A0_3 af.length aw) := (blk_cell aa.out 3).trans rfl
 refine value_ (w1 := w') (v := .int .i64 ac) (by rfl) rfl ?_ ?_
 {
 go_simp
 (try simp only [i64_w])
 try rfl
 }
 refine hK.out _ _ ⟨ai, aj, ah, m11_, (by rw [ha.out]; exact putSel_upk 0 hb_ rfl rfl rfl), Q_BK338, Q_HB, fun h0_ => absurd ((hoff 6 (by kernel_rfl)).symm.trans h0_) (by decide), Q_HO347, fun h0_ => absurd ((hoff 10 (by kernel_rfl)).symm.trans h0_) (by decide), fun h0_ => absurd ((hoff 11 (by kernel_rfl)).symm.trans h0_) (by decide)⟩
 }
 refine steps_cons ?_ ?_
 {
 rintro b a w' ⟨ai, aj, ah, m11_, ha, Q_BK338, Q_HB, Q_HO344, Q_HO347, Q_HO350, Q_X11_⟩ hb_ hon hoff
 refine ⟨_, rfl, fun K hK => ?_⟩
 have e27 : a.tmps[27]? = some (.int .i64 ac) := by rw [ha]; exact putSel_on (e := (1, 27, .int .i64 ac)) 0 rfl rfl (hon 1 (by kernel_rfl)) rfl
 replace ha := Aside0.mk ha
 have aa := Aside0.mk Q_BK338
 have HB := Aside0.mk Q_HB
 refine value_ (w1 := w') (v := .int .u8 ((ac) % 256)) (by rfl) rfl ?_ ?_
 {
 go_simp
 (try simp only [i64_w])
 try rfl
 }
 refine hK.out _ _ ⟨ai, aj, ah, m11_, (by rw [ha.out]; exact putSel_upk 1 hb_ rfl rfl rfl), Q_BK338, Q_HB, fun h0_ => absurd ((hoff 6 (by kernel_rfl)).symm.trans h0_) (by decide), Q_HO347, fun h0_ => absurd ((hoff 10 (by kernel_rfl)).symm.trans h0_) (by decide), fun h0_ => absurd ((hoff 11 (by kernel_rfl)).symm.trans h0_) (by decide)⟩
 }
 refine steps_cons ?_ ?_
 {
 rintro b a w' ⟨ai, aj, ah, m11_, ha, Q_BK338, Q_HB, Q_HO344, Q_HO347, Q_HO350, Q_X11_⟩ hb_ hon hoff
 refine ⟨_, rfl, fun K hK => ?_⟩
 have e29 : a.tmps[29]? = some (.pointer (some ⟨ak, 1, none⟩)) := by rw [ha]; exact (putSel_off rfl).trans rfl
 replace ha := Aside0.mk ha
 have aa := Aside0.mk Q_BK338
 have HB := Aside0.mk Q_HB
 have hc0_ : w'.cell? ⟨ak, 0, none⟩ = some (.int .i64 ac) := (blk_cell aa.out 0).trans rfl
 have hc1_ : w'.cell? ⟨ak, 1, none⟩ = some (.int .i64 ad) := (blk_cell aa.out 1).trans rfl
 have hc2_ : w'.cell? ⟨ak, 2, none⟩ = some (.int .i64 ae) := (blk_cell aa.out 2).trans rfl
 have hc3_ : w'.cell? ⟨ak, 3, none⟩ = some (.slice A0_3 af.length aw) := (blk_cell aa.out 3).trans rfl
 refine value_ (w1 := w') (v := .int .i64 ad) (by rfl) rfl ?_ ?_
 {
 go_simp
 (try simp only [i64_w])
 try rfl
 }
 refine hK.out _ _ ⟨ai, aj, ah, m11_, (by rw [ha.out]; exact putSel_upk 2 hb_ rfl rfl rfl), Q_BK338, Q_HB, fun h0_ => absurd ((hoff 6 (by kernel_rfl)).symm.trans h0_) (by decide), Q_HO347, fun h0_ => absurd ((hoff 10 (by kernel_rfl)).symm.trans h0_) (by decide), fun h0_ => absurd ((hoff 11 (by kernel_rfl)).symm.trans h0_) (by decide)⟩
 }
 refine steps_cons ?_ ?_
 {
 rintro b a w' ⟨ai, aj, ah, m11_, ha, Q_BK338, Q_HB, Q_HO344, Q_HO347, Q_HO350, Q_X11_⟩ hb_ hon hoff
 refine ⟨_, rfl, fun K hK => ?_⟩
 have e30 : a.tmps[30]? = some (.int .i64 ad) := by rw [ha]; exact putSel_on (e := (4, 30, .int .i64 ad)) 2 rfl rfl (hon 4 (by kernel_rfl)) rfl
 replace ha := Aside0.mk ha
 have aa := Aside0.mk Q_BK338
 have HB := Aside0.mk Q_HB
 refine value_ (w1 := w') (v := .int .u8 ((ad) % 256)) (by rfl) rfl ?_ ?_
 {
 go_simp
 (try simp only [i64_w])
 try rfl
 }
 refine hK.out _ _ ⟨ai, aj, ah, m11_, (by rw [ha.out]; exact putSel_upk 3 hb_ rfl rfl rfl), Q_BK338, Q_HB, fun h0_ => absurd ((hoff 6 (by kernel_rfl)).symm.trans h0_) (by decide), Q_HO347, fun h0_ => absurd ((hoff 10 (by kernel_rfl)).symm.trans h0_) (by decide), fun h0_ => absurd ((hoff 11 (by kernel_rfl)).symm.trans h0_) (by decide)⟩
 }
 refine steps_cons ?_ ?_
 {
 rintro b a w' ⟨ai, aj, ah, m11_, ha, Q_BK338, Q_HB, Q_HO344, Q_HO347, Q_HO350, Q_X11_⟩ hb_ hon hoff
 refine ⟨_, rfl, fun K hK => ?_⟩
 have e28 : a.tmps[28]? = some (.int .u8 ((ac) % 256)) := by rw [ha]; exact putSel_on (e := (2, 28, .int .u8 ((ac) % 256))) 1 rfl rfl (hon 2 (by kernel_rfl)) rfl
 have e31 : a.tmps[31]? = some (.int .u8 ((ad) % 256)) := by rw [ha]; exact putSel_on (e := (5, 31, .int .u8 ((ad) % 256))) 3 rfl rfl (hon 5 (by kernel_rfl)) rfl
 replace ha := Aside0.mk ha
 have aa := Aside0.mk Q_BK338
 have HB := Aside0.mk Q_HB
 refine Kd.R_lit_step (Kd.int .u8) _ 5 ?hg (N := 32) ?hd (xs := ([(ac) % 256, (ad) % 256, 0, 0] : List Int)) (inner := [.int .u8 ((ac) % 256), .int .u8 ((ad) % 256), .int .u8 0, .int .u8 0]) (ok := fun _ => True) (okp := fun _ => True) ?hr ?hp (fun _ hk => hk) trivial (Below.refl _ _) (Nat.le_refl _) (by simp) ?_; (case hd => rfl); (case hg => rfl); (case hr => first | (go_simp; done) | (go_simp; rfl)); (case hp => exact (Reps.one (show Kd.M (Kd.int .u8) _ _ _ ((ac) % 256) [.int .u8 ((ac) % 256)] from rfl) (Reps.one (show Kd.M (Kd.int .u8) _ _ _ ((ad) % 256) [.int .u8 ((ad) % 256)] from rfl) (Reps.one (show Kd.M (Kd.int .u8) _ _ _ 0 [.int .u8 0] from rfl) (Reps.one (show Kd.M (Kd.int .u8) _ _ _ 0 [.int .u8 0] from rfl) (Reps.none _ _))))))
 intro ai a3 ap hb hg_ hnew_
 clear hg_ hnew_
 (first | rw [← Ny342.out] at ap | (simp only [Int.reduceToNat] at ap; rw [← Ny342.out] at ap))
 have n0_ := Aside0.mk (Kd.R_lower ap (below_size wB))
 have n1_ := Aside0.mk (blk_below (Bh aa) hb)
 have n2_ := Aside0.mk (below_step wB hb)
 have z_HO347 := fun (h0_ : b 9 = true) => (show Kd.R (Kd.int .u8) 5 a3 w.heap.size (fun _ => True) aj au from by first | exact (Kd.R_elder' (by (with_reducible repeat (first | apply Kd.R_alloc | apply Kd.R_drewN | apply Kd.R_drew)); exact (Q_HO347 h0_)) (Kd.R_base ap) hb) | exact Kd.R_mono (Kd.R_elder' (by (with_reducible repeat (first | apply Kd.R_alloc | apply Kd.R_drewN | apply Kd.R_drew)); exact (Q_HO347 h0_)) (Kd.R_base ap) hb) (fun _ h_ => by first | trivial | exact h_ | exact h_.1))
 clear aa
 clear HB
 have al := n0_
 have aa := n1_
 have HB := n2_
 clear n0_ n1_ n2_
 clear hb ap
 refine hK.out _ _ ⟨ai, aj, ah, m11_, (by rw [ha.out]; exact putSel_upk 4 hb_ rfl rfl rfl), (Bh aa), wB, fun _ => (by (with_reducible repeat (first | apply Kd.R_alloc | apply Kd.R_drewN | apply Kd.R_drew)); first | exact al.out | exact Kd.R_mono al.out (fun _ hk => by first | trivial | exact hk.1 | exact hk.2)), z_HO347, fun h0_ => absurd ((hoff 10 (by kernel_rfl)).symm.trans h0_) (by decide), fun h0_ => absurd ((hoff 11 (by kernel_rfl)).symm.trans h0_) (by decide)⟩
 }
 refine steps_cons ?_ ?_
 {
 rintro b a w' ⟨ai, aj, ah, m11_, ha, Q_BK338, Q_HB, Q_HO344, Q_HO347, Q_HO350, Q_X11_⟩ hb_ hon hoff
 refine ⟨_, rfl, fun K hK => ?_⟩
 have e33 : a.tmps[33]? = some (.pointer (some ⟨ak, 2, none⟩)) := by rw [ha]; exact (putSel_off rfl).trans rfl
 replace ha := Aside0.mk ha
 have aa := Aside0.mk Q_BK338
 have HB := Aside0.mk Q_HB
 have hc0_ : w'.cell? ⟨ak, 0, none⟩ = some (.int .i64 ac) := (blk_cell aa.out 0).trans rfl
 have hc1_ : w'.cell? ⟨ak, 1, none⟩ = some (.int .i64 ad) := (blk_cell aa.out 1).trans rfl
 have hc2_ : w'.cell? ⟨ak, 2, none⟩ = some (.int .i64 ae) := (blk_cell aa.out 2).trans rfl
 have hc3_ : w'.cell? ⟨ak, 3, none⟩ = some (.slice A0_3 af.length aw) := (blk_cell aa.out 3).trans rfl
 refine value_ (w1 := w') (v := .int .i64 ae) (by rfl) rfl ?_ ?_
 {
 go_simp
 (try simp only [i64_w])
 try rfl
 }
 refine hK.out _ _ ⟨ai, aj, ah, m11_, (by rw [ha.out]; exact putSel_upk 5 hb_ rfl rfl rfl), Q_BK338, Q_HB, Q_HO344, fun h0_ => absurd ((hoff 9 (by kernel_rfl)).symm.trans h0_) (by decide), fun h0_ => absurd ((hoff 10 (by kernel_rfl)).symm.trans h0_) (by decide), fun h0_ => absurd ((hoff 11 (by kernel_rfl)).symm.trans h0_) (by decide)⟩
 }
 refine steps_cons ?_ ?_
 {
 rintro b a w' ⟨ai, aj, ah, m11_, ha, Q_BK338, Q_HB, Q_HO344, Q_HO347, Q_HO350, Q_X11_⟩ hb_ hon hoff
 refine ⟨_, rfl, fun K hK => ?_⟩
 have e34 : a.tmps[34]? = some (.int .i64 ae) := by rw [ha]; exact putSel_on (e := (8, 34, .int .i64 ae)) 5 rfl rfl (hon 8 (by kernel_rfl)) rfl
 replace ha := Aside0.mk ha
 have aa := Aside0.mk Q_BK338
 have HB := Aside0.mk Q_HB
 refine goes_ Try.func73 (by kernel_rfl) rfl #[.int .i64 ae, .int .i64 4] (by rfl) rfl rfl (by first | (simp only [List.map_toArray, List.map_cons, List.map_nil, Act.eval, Array.getD_eq_getD_getElem?, Option.getD_some, e34]; done) | (simp only [List.map_toArray, List.map_cons, List.map_nil, Act.eval, Array.getD_eq_getD_getElem?, Option.getD_some, e34]; rfl)) ?_
 with_reducible refine (spec_l03Put.calls ax ae 4 au _ A1009.out).mono ?_
 rintro e a3 ⟨aj, rfl, av, hb⟩
 refine ⟨_, rfl, ?_⟩
 have n0_ := Aside0.mk (Kd.R_lower av (below_size wB))
 have n1_ := Aside0.mk (blk_below (Bh aa) hb)
 have n2_ := Aside0.mk (below_step wB hb)
 have z_HO344 := fun (h0_ : b 6 = true) => (show Kd.R (Kd.int .u8) 5 a3 w.heap.size (fun _ => True) ai aN from by first | exact (Kd.R_elder' (by (with_reducible repeat (first | apply Kd.R_alloc | apply Kd.R_drewN | apply Kd.R_drew)); exact (Q_HO344 h0_)) (Kd.R_base av) hb) | exact Kd.R_mono (Kd.R_elder' (by (with_reducible repeat (first | apply Kd.R_alloc | apply Kd.R_drewN | apply Kd.R_drew)); exact (Q_HO344 h0_)) (Kd.R_base av) hb) (fun _ h_ => by first | trivial | exact h_ | exact h_.1))
 clear aa
 clear HB
 have am := n0_
 have aa := n1_
 have HB := n2_
 clear n0_ n1_ n2_
 (try clear hb)
 (try clear hb2)
 (try clear hk)
 (try clear hi)
 (try clear av)
 refine hK.out _ _ ⟨ai, aj, ah, m11_, (by rw [ha.out]; exact putSel_upk 6 hb_ rfl rfl rfl), (Bh aa), wB, z_HO344, fun _ => (by (with_reducible repeat (first | apply Kd.R_alloc | apply Kd.R_drewN | apply Kd.R_drew)); first | exact am.out | exact Kd.R_mono am.out (fun _ hk => by first | trivial | exact hk.1 | exact hk.2)), fun h0_ => absurd ((hoff 10 (by kernel_rfl)).symm.trans h0_) (by decide), fun h0_ => absurd ((hoff 11 (by kernel_rfl)).symm.trans h0_) (by decide)⟩
 }
 refine steps_cons ?_ ?_
 {
 rintro b a w' ⟨ai, aj, ah, m11_, ha, Q_BK338, Q_HB, Q_HO344, Q_HO347, Q_HO350, Q_X11_⟩ hb_ hon hoff
 refine ⟨_, rfl, fun K hK => ?_⟩
 have e32 : a.tmps[32]? = some (ai) := by rw [ha]; exact putSel_on (e := (6, 32, ai)) 4 rfl rfl (hon 6 (by kernel_rfl)) rfl
 have e35 : a.tmps[35]? = some (aj) := by rw [ha]; exact putSel_on (e := (9, 35, aj)) 6 rfl rfl (hon 9 (by kernel_rfl)) rfl
 replace ha := Aside0.mk ha
 have aa := Aside0.mk Q_BK338
 have HB := Aside0.mk Q_HB
 have al := Aside0.mk (Q_HO344 (hon 6 (by kernel_rfl)))
 have am := Aside0.mk (Q_HO347 (hon 9 (by kernel_rfl)))
 obtain ⟨a5, a6, a7⟩ := Kd.R_slice al.out
 (first | subst a7 | (injection a7 with f1_ f2_ f3_; have f4_ := f1_.symm; have f5_ := f3_.symm; clear f1_ f2_ f3_; subst f4_; subst f5_))
 obtain ⟨a8, a9, ba⟩ := Kd.R_slice am.out
 (first | subst ba | (injection ba with f1_ f2_ f3_; have f4_ := f1_.symm; have f5_ := f3_.symm; clear f1_ f2_ f3_; subst f4_; subst f5_))
 refine goes_ Try.func32 (by kernel_rfl) rfl #[.slice a5 aN.length a6, .slice a8 au.length a9] (by rfl) rfl rfl (by first | (simp only [List.map_toArray, List.map_cons, List.map_nil, Act.eval, Array.getD_eq_getD_getElem?, Option.getD_some, e32, e35]; done) | (simp only [List.map_toArray, List.map_cons, List.map_nil, Act.eval, Array.getD_eq_getD_getElem?, Option.getD_some, e32, e35]; rfl)) ?_
 with_reducible refine (spec_l01Join.calls ax _ _ aN _ _ au az _ ?side1 ?side2 ?side3 ?side4 A1010.out).mono ?_
 (case side1 => exact Ch al)
 (case side2 => exact (Kd.R_reads' al.out).2.1)
 (case side3 => exact Ch am)
 (case side4 => exact (Kd.R_reads' am.out).2.1)
 rintro e bo ⟨ah, rfl, av, hb⟩
 refine ⟨_, rfl, ?_⟩
 have n0_ := Aside0.mk (Kd.R_elder' (Rh al) (Kd.R_base av) hb)
 have n1_ := Aside0.mk (Kd.R_elder' (Rh am) (Kd.R_base av) hb)
 have n2_ := Aside0.mk (Kd.R_lower (Kd.R_new' (Kd.R_new' av (Kd.R_lt (Rh al))) (Kd.R_lt (Rh am))) (below_size wB))
 have n3_ := Aside0.mk (blk_below (Bh aa) hb)
 have n4_ := Aside0.mk (below_step wB hb)
 clear al
 clear am
 clear aa
 clear HB
 have al := n0_
 have am := n1_
 have an := n2_
 have aa := n3_
 have HB := n4_
 clear n0_ n1_ n2_ n3_ n4_
 (try clear hb)
 (try clear hb2)
 (try clear hk)
 (try clear hi)
 (try clear av)
 refine hK.out _ _ ⟨.slice a5 aN.length a6, .slice a8 au.length a9, ah, m11_, (by rw [ha.out]; exact putSel_upk 7 hb_ rfl rfl rfl), (Bh aa), wB, fun _ => (by (with_reducible repeat (first | apply Kd.R_alloc | apply Kd.R_drewN | apply Kd.R_drew)); first | exact al.out | exact Kd.R_mono al.out (fun _ hk => by first | trivial | exact hk.1 | exact hk.2)), fun _ => (by (with_reducible repeat (first | apply Kd.R_alloc | apply Kd.R_drewN | apply Kd.R_drew)); first | exact am.out | exact Kd.R_mono am.out (fun _ hk => by first | trivial | exact hk.1 | exact hk.2)), fun _ => (Kd.R_mono (Rh an) (fun _ hk => by first | exact ⟨hk.1.2, hk.2⟩ | trivial | exact hk.1 | exact hk.2)), fun h0_ => absurd ((hoff 11 (by kernel_rfl)).symm.trans h0_) (by decide)⟩
 }
 refine steps_cons ?_ ?_
 {
 rintro b a w' ⟨ai, aj, ah, m11_, ha, Q_BK338, Q_HB, Q_HO344, Q_HO347, Q_HO350, Q_X11_⟩ hb_ hon hoff
 refine ⟨_, rfl, fun K hK => ?_⟩
 have e36 : a.tmps[36]? = some (ah) := by rw [ha]; exact putSel_on (e := (10, 36, ah)) 7 rfl rfl (hon 10 (by kernel_rfl)) rfl
 replace ha := Aside0.mk ha
 have aa := Aside0.mk Q_BK338
 have HB := Aside0.mk Q_HB
 have al := Aside0.mk (Q_HO344 (hon 6 (by kernel_rfl)))
 have am := Aside0.mk (Q_HO347 (hon 9 (by kernel_rfl)))
 have an := Aside0.mk (Q_HO350 (hon 10 (by kernel_rfl)))
 refine value_ (w1 := w') (v := ah) (by rfl) rfl ?_ ?_
 {
 go_simp
 (try simp only [i64_w])
 try rfl
 }
 refine hK.out _ _ ⟨ai, aj, ah, (ah), (by rw [ha.out]; exact putSel_upk 8 hb_ rfl rfl rfl), Q_BK338, Q_HB, Q_HO344, Q_HO347, Q_HO350, fun _ => rfl⟩
 }
 exact steps_nil
 }
 rintro b a bo hall ⟨ai, aj, ah, m11_, ha, Q_BK338, Q_HB, Q_HO344, Q_HO347, Q_HO350, Q_X11_⟩
 clear aa HB
 have hb1_ := hall 1 (by kernel_rfl)
 have hb2_ := hall 2 (by kernel_rfl)
 have hb4_ := hall 4 (by kernel_rfl)
 have hb5_ := hall 5 (by kernel_rfl)
 have hb6_ := hall 6 (by kernel_rfl)
 have hb8_ := hall 8 (by kernel_rfl)
 have hb9_ := hall 9 (by kernel_rfl)
 have hb10_ := hall 10 (by kernel_rfl)
 have hb11_ := hall 11 (by kernel_rfl)
 subst ha
 obtain rfl := Q_X11_ hb11_
 simp only [putSel, hb1_, hb2_, hb4_, hb5_, hb6_, hb8_, hb9_, hb10_, hb11_, if_true, Act.put, List.setIfInBounds_toArray, List.set_cons_zero, List.set_cons_succ]
 have aa := Aside0.mk Q_BK338
 clear Q_BK338
 have HB := Aside0.mk Q_HB
 clear Q_HB
 have al := Aside0.mk (Q_HO344 hb6_)
 clear Q_HO344
 have am := Aside0.mk (Q_HO347 hb9_)
 clear Q_HO347
 have an := Aside0.mk (Q_HO350 hb10_)
 clear Q_HO350
 clear hall hb1_ hb2_ hb4_ hb5_ hb6_ hb8_ hb9_ hb10_ hb11_
 obtain ⟨⟨bp, bq, br, bs⟩, bu, bv, bw, bz⟩ := cells4 aa.out
 have n_ := Aside0.mk (Kd.R_mono (ok' := (fun _ => True)) an.out (fun k_ hk => trivial))
 clear an
 have an := n_
 clear n_
 (try clear al)
 (try clear am)
 obtain ⟨bh, bi, bj⟩ := Kd.R_slice an.out
 subst bj
 try go_wp2_with (first | ((with_reducible refine gate_callee (f := 32) rfl ?_); refine gL (some 40) Try.func32 #[.slice bh az.length bi, .slice A0_3 af.length aw] ?_; (with_reducible refine (spec_l01Join.calls ax _ _ az _ _ af ag _ ?side1 ?side2 ?side3 ?side4 A1011.out).mono ?_); (case side1 => exact Ch an); (case side2 => exact (Kd.R_reads' an.out).2.1); (case side3 => exact Kd.C_below HR0_3.out wB); (case side4 => exact bm.out); rintro e aq ⟨bF, rfl, av, hb⟩; refine ⟨_, rfl, ?_⟩; have ab := Aside0.mk (Kd.R_lower (Kd.R_new' av (Kd.R_lt (Rh an))) (below_size wB)); replace an := Aside0.mk (Kd.R_elder' (Rh an) (Kd.R_base av) hb); replace aa := Aside0.mk (blk_below (Bh aa) hb); replace HB := Aside0.mk (below_step wB hb); clear hb; (try clear av); have n_ := Aside0.mk (Kd.R_mono (ok' := (fun _ => True)) ab.out (fun k_ hk => trivial)); clear ab; have ab := n_; clear n_; (try clear an); obtain ⟨bk, a2, bl⟩ := Kd.R_slice ab.out; subst bl) | ((with_reducible refine gate_callee (f := 34) rfl ?_); refine gL (some 42) Try.func34 #[.slice bk ag.length a2] ?_; (with_reducible refine (spec_Checksum.calls ax _ _ ag ao _ ?side1 ?side2 A1012.out).mono ?_); (case side1 => exact Ch ab); (case side2 => exact (Kd.R_reads' ab.out).2.1); rintro e w' ⟨rfl, ⟨nd, rfl⟩⟩; refine ⟨_, rfl, ?_⟩; (try (rw [drewN_self aq]; generalize hq_ : World.drewN aq _ = aq; replace ab := Aside0.mk (Kd.R_at hq_ ab.out); replace aa := Aside0.mk (blk_at hq_ aa.out); replace HB := Aside0.mk (below_at hq_ HB.out); clear hq_; (try (obtain ⟨⟨aF, aG, aH, aI⟩, aJ, aK, aL, aM⟩ := cells4 aa.out)))); have p1014 : 0 ≤ (2 : Int) := (by omega); have q1014 : (2 : Int) < ((ag.length : Int) : Int) := dT; have qi1014 : (2 < ag.length) = True := eq_true (by omega); obtain ⟨go1014, bB, bb, bc, gl1014, cl1014, HG1014⟩ := Kd.R_form ab.out (by omega); (first | cases bb | (injection bb with ea_ en_ ec_; (first | subst ea_ | (injection ea_ with ea_; subst ea_)); subst ec_; clear en_)); have GB1014 := Aside0.mk bc; have GG1014 := Aside0.mk HG1014; clear bc gl1014 HG1014; obtain ⟨hx1014_0, hf1014_0⟩ := Kd.R_celln 0 ab.out (2 : Int) p1014 q1014; (try rw [show ((2 : Int)).toNat = 2 from rfl] at hx1014_0); (try simp only [Nat.reduceMul, Nat.zero_mul, Nat.zero_add, Nat.reduceAdd] at hx1014_0); (try rw [show ((2 : Int)).toNat = 2 from rfl] at hf1014_0); (try simp only [Nat.reduceMul, Nat.zero_mul, Nat.zero_add, Nat.reduceAdd] at hf1014_0); replace p1014 := eq_true p1014; replace q1014 := eq_true q1014; obtain ⟨hy2014_, hz2014_⟩ := Kd.R_celln 0 ab.out (2 : Int) (by omega) dT; (try simp only [Int.reduceToNat, Int.toNat_zero, Int.toNat_ofNat, Nat.reduceMul, Nat.zero_mul, Nat.zero_add] at hy2014_ hz2014_); (try rw [show ((2 : Int)).toNat = 2 from rfl] at hy2014_); (try rw [show ((2 : Int)).toNat = 2 from rfl] at hz2014_); have HP2014 := Kd.R_putg ab.out (2 : Int) ((ao / 256) % 256)) | ((with_reducible refine gate_store (t := 5) (p := 47) rfl ?_); (try (rw [drewN_self aq]; generalize hq_ : World.drewN aq _ = aq; replace ab := Aside0.mk (Kd.R_at hq_ ab.out); replace aa := Aside0.mk (blk_at hq_ aa.out); replace HB := Aside0.mk (below_at hq_ HB.out); clear hq_; (try (obtain ⟨⟨aF, aG, aH, aI⟩, aJ, aK, aL, aM⟩ := cells4 aa.out)); (try (obtain ⟨hy2014_, hz2014_⟩ := Kd.R_celln 0 ab.out (2 : Int) (by omega) dT)); (try (try simp only [Int.reduceToNat, Int.toNat_zero, Int.toNat_ofNat, Nat.reduceMul, Nat.zero_mul, Nat.zero_add] at hy2014_ hz2014_)); (try (try rw [show ((2 : Int)).toNat = 2 from rfl] at hy2014_)); (try (try rw [show ((2 : Int)).toNat = 2 from rfl] at hz2014_)); (try (have HP2014 := Kd.R_putg ab.out (2 : Int) ((ao / 256) % 256))))); refine storeE (aq.setCell ⟨go1014, (2 : Int).toNat, none⟩ (.int .u8 ((ao / 256) % 256))) ?_; intro ar hw; have hg : aq.grownBy ar (some go1014) := (by rw [hw]; exact HP2014.2); have hp_ : Kd.R (Kd.int .u8) 5 ar w.heap.size (fun _ => True) (.slice (some ⟨go1014, 0, none⟩) ag.length a2) be := (by rw [hw, Ny355.out]; exact HP2014.1); clear HP2014; replace aa := Aside0.mk (blk_grown (Bh aa) hg (Kd.R_ne ab.out aa.out (by decide))); replace ab := Aside0.mk (hp_); replace HB := Aside0.mk ((by rw [hw]; exact below_set (HB.out) GB1014.out : Below w.heap.size w ar)); clear hg hw hp_; have p1016 : 0 ≤ (3 : Int) := (by omega); have q1016 : (3 : Int) < ((ag.length : Int) : Int) := dT; have qi1016 : (3 < ag.length) = True := eq_true (by omega); obtain ⟨hx1016_0, hf1016_0⟩ := Kd.R_celln 0 ab.out (3 : Int) p1016 q1016; (try rw [show ((3 : Int)).toNat = 3 from rfl] at hx1016_0); (try simp only [Nat.reduceMul, Nat.zero_mul, Nat.zero_add, Nat.reduceAdd] at hx1016_0); (try rw [show ((3 : Int)).toNat = 3 from rfl] at hf1016_0); (try simp only [Nat.reduceMul, Nat.zero_mul, Nat.zero_add, Nat.reduceAdd] at hf1016_0); replace p1016 := eq_true p1016; replace q1016 := eq_true q1016; obtain ⟨hy2016_, hz2016_⟩ := Kd.R_celln 0 ab.out (3 : Int) (by omega) dT; (try simp only [Int.reduceToNat, Int.toNat_zero, Int.toNat_ofNat, Nat.reduceMul, Nat.zero_mul, Nat.zero_add] at hy2016_ hz2016_); (try rw [show ((3 : Int)).toNat = 3 from rfl] at hy2016_); (try rw [show ((3 : Int)).toNat = 3 from rfl] at hz2016_); have HP2016 := Kd.R_putg ab.out (3 : Int) ((ao) % 256)) | ((with_reducible refine gate_store (t := 5) (p := 51) rfl ?_); (try (rw [drewN_self ar]; generalize hq_ : World.drewN ar _ = ar; replace ab := Aside0.mk (Kd.R_at hq_ ab.out); replace aa := Aside0.mk (blk_at hq_ aa.out); replace HB := Aside0.mk (below_at hq_ HB.out); clear hq_; (try (obtain ⟨⟨aF, aG, aH, aI⟩, aJ, aK, aL, aM⟩ := cells4 aa.out)); (try (obtain ⟨hy2016_, hz2016_⟩ := Kd.R_celln 0 ab.out (3 : Int) (by omega) dT)); (try (try simp only [Int.reduceToNat, Int.toNat_zero, Int.toNat_ofNat, Nat.reduceMul, Nat.zero_mul, Nat.zero_add] at hy2016_ hz2016_)); (try (try rw [show ((3 : Int)).toNat = 3 from rfl] at hy2016_)); (try (try rw [show ((3 : Int)).toNat = 3 from rfl] at hz2016_)); (try (have HP2016 := Kd.R_putg ab.out (3 : Int) ((ao) % 256))))); refine storeE (ar.setCell ⟨go1014, (3 : Int).toNat, none⟩ (.int .u8 ((ao) % 256))) ?_; intro a4 hw; have hg : ar.grownBy a4 (some go1014) := (by rw [hw]; exact HP2016.2); have hp_ : Kd.R (Kd.int .u8) 5 a4 w.heap.size (fun _ => True) (.slice (some ⟨go1014, 0, none⟩) ag.length a2) bg := (by rw [hw, Ny356.out]; exact HP2016.1); clear HP2016; replace aa := Aside0.mk (blk_grown (Bh aa) hg (Kd.R_ne ab.out aa.out (by decide))); replace ab := Aside0.mk (hp_); replace HB := Aside0.mk ((by rw [hw]; exact below_set (HB.out) GB1014.out : Below w.heap.size w a4)); clear hg hw hp_))
 go_ret2
 exact ⟨_, eR, by (with_reducible repeat (first | apply Kd.R_alloc | apply Kd.R_drewN | apply Kd.R_drew)); exact ab.out, wB⟩
 }
 {
 rw [if_neg a0] at H
 exact absurd H (by simp)
 }
 }
 {
 rw [if_neg aZ] at H
 exact absurd H (by simp)
 }
 }
 }
 }
 )

end Go.Proofs.Ytckhadlmhbhngaa.PFnComplain
