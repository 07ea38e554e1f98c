-- Written for this claim by a program of this session (wip/mkprint.py: the print, turned at a few places). Not trusted: Lean checks it.
import Derived.Test.YtckhadlmhbhngaaPFnComplainx0
import Derived.Test.YtckhadlmhbhngaaPFnComplainx1
namespace Go.Proofs.Ytckhadlmhbhngaa.PFnComplain
open Go.RowKit Go.Proofs.YtckhadlmhbhngaaW.PrintWords Go.Proofs.YtckhadlmhbhngaaW.PrintLast Go.Proofs.YtckhadlmhbhngaaW.PrintMore
attribute [local go_sem] max2_int min2_int max_two min_two max_three min_three max_four min_four   -- for this text's walks alone
set_option linter.unusedVariables false
set_option linter.unusedSimpArgs false

/-! ### impl_ReadQuote: function 26 -/
def impl_ReadQuote.j0 : Nat → List Int → Int → Bool → Option (Int × Int × Int × Int × Int × Int × Int × Int)
  | 0, _, _, _ => none
  | k + 1, x0, x4, ah => if ah = true then (some (0, 0, 0, 0, 0, 0, 0, 5)) else (if 0 ≤ x4 then (if x4 ≤ (x0.length : Int) then ((impl_Checksum.f k (x0.take (x4 : Int).toNat)).bind fun aa => (if aa = 0 then (if ((x0.drop (x4 : Int).toNat).length : Int) < 8 then (some (0, 0, 0, 0, 0, 0, 0, 2)) else (if 9 < (x0.length : Int) then (if 12 ≤ 16 then (if 16 ≤ (x0.length : Int) then ((impl_get.f k ((x0.take 16).drop 12)).bind fun ab => (if 16 ≤ 20 then (if 20 ≤ (x0.length : Int) then ((impl_get.f k ((x0.take 20).drop 16)).bind fun ac => (if 4 ≤ 6 then (if 6 ≤ (x0.length : Int) then ((impl_get.f k ((x0.take 6).drop 4)).bind fun ad => (if 2 ≤ ((x0.drop (x4 : Int).toNat).length : Int) then ((impl_get.f k ((x0.drop (x4 : Int).toNat).take 2)).bind fun ae => (if 2 ≤ 4 then (if 4 ≤ ((x0.drop (x4 : Int).toNat).length : Int) then ((impl_get.f k (((x0.drop (x4 : Int).toNat).take 4).drop 2)).bind fun af => (if 4 ≤ 8 then (if 8 ≤ ((x0.drop (x4 : Int).toNat).length : Int) then ((impl_get.f k (((x0.drop (x4 : Int).toNat).take 8).drop 4)).bind fun ag => (some (wrap64 (rd x0 9), ab, ac, ad, ae, af, ag, 0))) else (none)) else (none))) else (none)) else (none))) else (none))) else (none)) else (none))) else (none)) else (none))) else (none)) else (none)) else (none))) else (some (0, 0, 0, 0, 0, 0, 0, 3)))) else (none)) else (none))
def impl_ReadQuote.f (k : Nat) (l0 : List Int) : Option (Int × Int × Int × Int × Int × Int × Int × Int) := if (l0.length : Int) < 20 then (some (0, 0, 0, 0, 0, 0, 0, 2)) else (if 0 < (l0.length : Int) then (if ((rd l0 0) / 16) = 4 then (if (wrap64 ((wrap64 (Go.bits .and .u8 (rd l0 0) 15)) * 4)) < 20 then (impl_ReadQuote.j0 k l0 (wrap64 ((wrap64 (Go.bits .and .u8 (rd l0 0) 15)) * 4)) true) else (impl_ReadQuote.j0 k l0 (wrap64 ((wrap64 (Go.bits .and .u8 (rd l0 0) 15)) * 4)) (decide ((wrap64 ((wrap64 (Go.bits .and .u8 (rd l0 0) 15)) * 4)) > (l0.length : Int))))) else (some (0, 0, 0, 0, 0, 0, 0, 4))) else (none))
theorem impl_ReadQuote.mono_l : ∀ k, (∀ y0 y1 y2, LeO (impl_ReadQuote.j0 k y0 y1 y2) (impl_ReadQuote.j0 (k + 1) y0 y1 y2))
  | 0 => fun _ _ _ r h => by simp [impl_ReadQuote.j0] at h
  | k + 1 => by
    have ih0 := impl_ReadQuote.mono_l k
    · intro y0 y1 y2
      unfold impl_ReadQuote.j0
      repeat' first
      | (with_reducible exact ih0 _ _ _)
      | (with_reducible exact impl_Checksum.mono _ _)
      | (with_reducible exact impl_get.mono _ _)
      | (with_reducible exact LeO.refl _)
      | (with_reducible exact LeO.none _)
      | (with_reducible refine LeO.ite ?_ ?_)
      | (with_reducible refine LeO.bind ?_ (fun _ => ?_))
      | exact ih0 _ _ _
      | exact impl_Checksum.mono _ _
      | exact impl_get.mono _ _
      | exact LeO.none _
      | refine LeO.ite ?_ ?_
      | refine LeO.bind ?_ (fun _ => ?_)
theorem impl_ReadQuote.mono : ∀ a0 k, LeO (impl_ReadQuote.f k a0) (impl_ReadQuote.f (k + 1) a0) := by
 intro a0 k
 have ih0 := impl_ReadQuote.mono_l k
 unfold impl_ReadQuote.f
 repeat' first
     | (with_reducible exact ih0 _ _ _)
     | (with_reducible exact impl_Checksum.mono _ _)
     | (with_reducible exact impl_get.mono _ _)
     | (with_reducible exact LeO.refl _)
     | (with_reducible exact LeO.none _)
     | (with_reducible refine LeO.ite ?_ ?_)
     | (with_reducible refine LeO.bind ?_ (fun _ => ?_))
     | exact ih0 _ _ _
     | exact impl_Checksum.mono _ _
     | exact impl_get.mono _ _
     | exact LeO.none _
     | refine LeO.ite ?_ ?_
     | refine LeO.bind ?_ (fun _ => ?_)
def impl_ReadQuote.T13 : Bool × List (List Nat × List Nat) := (true, [([], []), ([0], [0]), ([1], [1]), ([2], [2]), ([], []), ([4], [4]), ([5], [5]), ([], []), ([7], [7]), ([8, 6], [8]), ([], []), ([10], [10]), ([11, 9], [11]), ([], []), ([13], [13]), ([14, 12], [14]), ([], []), ([16], [16]), ([17, 15], [17]), ([], []), ([19], [19]), ([20, 18], [20]), ([3, 6, 9, 12, 15, 18, 21], [3, 6, 9, 12, 15, 18, 21]), ([22, 21, 0, 1, 2, 3, 4, 5, 6, 7, 8, 9, 10, 11, 12, 13, 14, 15, 16, 17, 18, 19, 20, 21, 22], [22]), ([23, 0, 1, 2, 3, 4, 5, 6, 7, 8, 9, 10, 11, 12, 13, 14, 15, 16, 17, 18, 19, 20, 21, 22, 23], [])])
def impl_ReadQuote.B13 : List Nat := [0, 1, 3, 7, 0, 16, 48, 0, 128, 496, 0, 1024, 4080, 0, 8192, 32752, 0, 65536, 262128, 0, 524288, 2097136, 4194303, 8388607, 16777215]
theorem impl_ReadQuote.tab13 : rtab .any (opsOf Try.f26 13) = impl_ReadQuote.T13 := by kernel_rfl
theorem impl_ReadQuote.bits13 : waitsOk impl_ReadQuote.T13.2 impl_ReadQuote.B13 = true := by kernel_rfl
set_option maxHeartbeats 60000000 in
set_option maxRecDepth 100000 in
theorem impl_ReadQuote.calls (k : Nat) (A0 : Option Addr) (c0 : Nat) (l0 : List Int) (r1 : Int) (r2 : Int) (r3 : Int) (r4 : Int) (r5 : Int) (r6 : Int) (r7 : Int) (r8 : Int) (w : World) (hr0 : Kd.C (Kd.int .u8) w A0 l0.length l0) (hc0 : l0.length ≤ c0) (h : impl_ReadQuote.f k l0 = some (r1, r2, r3, r4, r5, r6, r7, r8)) :
 Calls Try.prog 26 #[.slice A0 l0.length c0] w fun e w' => e = .returned (.tuple #[.agg #[.int .i64 r1, .int .i64 r2, .int .i64 r3, .int .i64 r4, .int .i64 r5, .int .i64 r6, .int .i64 r7], .int .i64 r8]) ∧ Below w.heap.size w w' := by
 have hu56 := Try.underlying56
 have HR0 := Aside0.mk hr0
 have aJ := Aside0.mk hc0
 clear hr0 hc0
 have HB := Aside0.mk (Below.refl w.heap.size w)
 have H : (if (l0.length : Int) < 20 then (some (0, 0, 0, 0, 0, 0, 0, 2)) else (if 0 < (l0.length : Int) then (if ((rd l0 0) / 16) = 4 then (if (wrap64 ((wrap64 (Go.bits .and .u8 (rd l0 0) 15)) * 4)) < 20 then (impl_ReadQuote.j0 k l0 (wrap64 ((wrap64 (Go.bits .and .u8 (rd l0 0) 15)) * 4)) true) else (impl_ReadQuote.j0 k l0 (wrap64 ((wrap64 (Go.bits .and .u8 (rd l0 0) 15)) * 4)) (decide ((wrap64 ((wrap64 (Go.bits .and .u8 (rd l0 0) 15)) * 4)) > (l0.length : Int))))) else (some (0, 0, 0, 0, 0, 0, 0, 4))) else (none))) = some (r1, r2, r3, r4, r5, r6, r7, r8) := h
 clear h
 by_cases c2 : (l0.length : Int) < 20
 {
 rw [if_pos c2] at H
 have c2b0 : decide ((l0.length : Int) < 20) = true := decide_eq_true c2
 have c2b1 : decide (l0.length < 20) = true := decide_eq_true (by omega)
 clear c2
 simp only [Option.some.injEq, Prod.mk.injEq] at H
 obtain ⟨rfl, rfl, rfl, rfl, rfl, rfl, rfl, rfl⟩ := H
 go_enter Try.func26, Try.ntmps26
 go_wp2_with (first | ((with_reducible refine gate_dst (N := 2) rfl ?_); (try (refine gate_guard (by rfl) ?_; dsimp only)); refine boxE 2 #[.int .i64 0, .int .i64 0, .int .i64 0, .int .i64 0, .int .i64 0, .int .i64 0, .int .i64 0] 56 ?_; intro ac hg av hbox hb; have ab := Aside0.mk (hbox); have au := Aside0.mk ((by rw [hg]; exact (below_size wB) : w.heap.size ≤ ac)); replace HB := Aside0.mk (below_step wB hb); have bf := au; clear hb hbox hg; obtain ⟨⟨aW, aX, aY, aZ, a0, a1, a2⟩, a3, a4, a5, a6, a7, a8, a9⟩ := cells7 ab.out) | ((with_reducible refine gate_store (t := 56) (p := 2) rfl ?_); (try (rw [drewN_self av]; generalize hq_ : World.drewN av _ = av; replace ab := Aside0.mk (blk_at hq_ ab.out); replace HB := Aside0.mk (below_at hq_ HB.out); clear hq_; (try (obtain ⟨⟨ad, ae, af, ag, ah, ai, aj⟩, ak, al, am, an, ao, ap, aq⟩ := cells7 ab.out)))); refine storeE (put7 av ac (.int .i64 0) (.int .i64 0) (.int .i64 0) (.int .i64 0) (.int .i64 0) (.int .i64 0) (.int .i64 0)) ?_; intro aK hw; have n0_ : Aside0 (aK.heap[ac]? = some (.cells #[.int .i64 0, .int .i64 0, .int .i64 0, .int .i64 0, .int .i64 0, .int .i64 0, .int .i64 0] 56 (0, 0))) := ⟨(by rw [hw]; exact (by apply set7; exact ab.out))⟩; have n1_ : Aside0 (Below w.heap.size w aK) := ⟨(by rw [hw]; exact wB)⟩; clear hw; clear ab; clear HB; have ab := n0_; have HB := n1_; clear n0_ n1_))
 refine bodyPost_ret (results_ct rfl _ _ ac 56 #[.int .i64 0, .int .i64 0, .int .i64 0, .int .i64 0, .int .i64 0, .int .i64 0, .int .i64 0] (0, 0) _ rfl (Bh ab) Try.underlying56 rfl (by kernel_rfl)) rfl ?_
 exact ⟨eR, wB⟩
 }
 {
 rw [if_neg c2] at H
 have c2b0 : decide ((l0.length : Int) < 20) = false := decide_eq_false c2
 have c2b1 : decide (l0.length < 20) = false := decide_eq_false (by omega)
 clear c2
 by_cases c3 : 0 < (l0.length : Int)
 {
 rw [if_pos c3] at H
 have c3b0 : decide (0 < (l0.length : Int)) = true := decide_eq_true c3
 have c3b1 : decide (0 < l0.length) = true := decide_eq_true (by omega)
 clear c3
 by_cases c4 : ((rd l0 0) / 16) = 4
 {
 rw [if_pos c4] at H
 have c4b0 : (((rd l0 0) / 16) == 4) = true := beq_iff_eq.mpr c4
 have c4b1 : (((rd l0 0) / 16) != 4) = false := bne_eq_false_iff_eq.mpr c4
 clear c4
 have bi := Aside0.mk H
 clear H
 go_enter Try.func26, Try.ntmps26
 go_upto_region 6 with (first | ((with_reducible refine gate_dst (N := 2) rfl ?_); (try (refine gate_guard (by rfl) ?_; dsimp only)); refine boxE 2 #[.int .i64 0, .int .i64 0, .int .i64 0, .int .i64 0, .int .i64 0, .int .i64 0, .int .i64 0] 56 ?_; intro ac hg av hbox hb; have ab := Aside0.mk (hbox); have au := Aside0.mk ((by rw [hg]; exact (below_size wB) : w.heap.size ≤ ac)); replace HB := Aside0.mk (below_step wB hb); have bf := au; clear hb hbox hg; have p431 : 0 ≤ (0 : Int) := (by omega); have q431 : 0 < (l0.length : Int) := dT; obtain ⟨ad431, e431, hx431_0⟩ := Kd.at_int HR0.out 0 p431 q431; cases e431; have qi431 : (0 < l0.length) = True := eq_true (by omega); (try rw [show ((0 : Int)).toNat = 0 from rfl] at hx431_0); (try rw [Addr.add_zero'] at hx431_0); replace hx431_0 := (HB.out.cell (World.block_lt_of_cell? w _ hx431_0)).trans hx431_0; replace p431 := eq_true p431; replace q431 := eq_true q431; have p432 : 0 ≤ (0 : Int) := (by omega); have q432 : 0 < (l0.length : Int) := dT; obtain ⟨ad432, e432, hx432_0⟩ := Kd.at_int HR0.out 0 p432 q432; obtain rfl : ad431 = ad432 := (by injection e432); have qi432 : (0 < l0.length) = True := eq_true (by omega); (try rw [show ((0 : Int)).toNat = 0 from rfl] at hx432_0); (try rw [Addr.add_zero'] at hx432_0); replace hx432_0 := (HB.out.cell (World.block_lt_of_cell? w _ hx432_0)).trans hx432_0; replace p432 := eq_true p432; replace q432 := eq_true q432))
 (try simp only [Act.put, List.setIfInBounds_toArray, List.set_cons_zero, List.set_cons_succ])
 go_cut [29] (fun b8 wc => ∃ (kq : Nat) (ba : Bool), b8 = .bool ba ∧ Aside0 (impl_ReadQuote.j0 kq l0 (wrap64 ((wrap64 (Go.bits .and .u8 (rd l0 0) 15)) * 4)) ba = some (r1, r2, r3, r4, r5, r6, r7, r8)) ∧ Aside0 (kq ≤ k) ∧ Aside0 (wc.heap[ac]? = some (.cells #[.int .i64 0, .int .i64 0, .int .i64 0, .int .i64 0, .int .i64 0, .int .i64 0, .int .i64 0] 56 (0, 0))) ∧ Aside0 (Below w.heap.size w wc))
 case first => (
 have H := bi.out
 clear bi
 by_cases aA : (wrap64 ((wrap64 (Go.bits .and .u8 (rd l0 0) 15)) * 4)) < 20
 {
 rw [if_pos aA] at H
 have c1002b0 : decide ((wrap64 ((wrap64 (Go.bits .and .u8 (rd l0 0) 15)) * 4)) < 20) = true := decide_eq_true aA
 clear aA
 (first | rw [c1002b0] | (simp only [i64_w, i32_w]; rw [c1002b0]) | skip)
 have H' := Aside0.mk H
 clear H
 go_wp2
 go_meet
 case rel => exact ⟨_, (true), eS, H', ⟨by first | omega | exact Nat.le_refl _⟩, ⟨Bh ab⟩, ⟨wB⟩⟩
 }
 {
 rw [if_neg aA] at H
 have c1002b0 : decide ((wrap64 ((wrap64 (Go.bits .and .u8 (rd l0 0) 15)) * 4)) < 20) = false := decide_eq_false aA
 clear aA
 (first | rw [c1002b0] | (simp only [i64_w, i32_w]; rw [c1002b0]) | skip)
 have H' := Aside0.mk H
 clear H
 go_wp2
 go_meet
 case rel => exact ⟨_, (decide ((wrap64 ((wrap64 (Go.bits .and .u8 (rd l0 0) 15)) * 4)) > (l0.length : Int))), eS, H', ⟨by first | omega | exact Nat.le_refl _⟩, ⟨Bh ab⟩, ⟨wB⟩⟩
 }
 )
 case rest => (
 clear bi
 try clear c2
 try clear c2b0
 try clear c2b1
 try clear p2
 try clear c3
 try clear c3b0
 try clear c3b1
 try clear c4
 try clear c4b0
 try clear c4b1
 try clear p4
 try clear q4
 try clear hx4
 try clear qi4
 try clear p431
 try clear q431
 try clear hx431
 try clear qi431
 try clear p432
 try clear q432
 try clear hx432
 try clear qi432
 try clear aA
 try clear c1002b0
 try clear aW aX aY aZ a0 a1 a2 a3 a4 a5 a6 a7 a8 a9
 try clear hx431_0
 try clear hx432_0
 try clear p431
 try clear p432
 try clear q431
 try clear q432
 obtain ⟨kq, ba, rfl, HA, HJ4, ab, HB⟩ := hcut
 cases kq with
 | zero => exact absurd HA.out (by simp [impl_ReadQuote.j0])
 | succ ar => {
 have H := HA.out
 clear HA
 simp only [impl_ReadQuote.j0] at H
 by_cases bb : ba = true
 subst bb
 have H1 : (some (0, 0, 0, 0, 0, 0, 0, 5)) = some (r1, r2, r3, r4, r5, r6, r7, r8) := by rw [if_pos rfl] at H; exact H
 clear H
 have H := H1
 clear H1
 simp only [Option.some.injEq, Prod.mk.injEq] at H
 obtain ⟨rfl, rfl, rfl, rfl, rfl, rfl, rfl, rfl⟩ := H
 rotate_left
 replace bb := Bool.eq_false_iff.mpr bb
 subst bb
 have H1 : (if 0 ≤ (wrap64 ((wrap64 (Go.bits .and .u8 (rd l0 0) 15)) * 4)) then (if (wrap64 ((wrap64 (Go.bits .and .u8 (rd l0 0) 15)) * 4)) ≤ (l0.length : Int) then ((impl_Checksum.f ar (l0.take ((wrap64 ((wrap64 (Go.bits .and .u8 (rd l0 0) 15)) * 4)) : Int).toNat)).bind fun ax => (if ax = 0 then (if ((l0.drop ((wrap64 ((wrap64 (Go.bits .and .u8 (rd l0 0) 15)) * 4)) : Int).toNat).length : Int) < 8 then (some (0, 0, 0, 0, 0, 0, 0, 2)) else (if 9 < (l0.length : Int) then (if 12 ≤ 16 then (if 16 ≤ (l0.length : Int) then ((impl_get.f ar ((l0.take 16).drop 12)).bind fun ay => (if 16 ≤ 20 then (if 20 ≤ (l0.length : Int) then ((impl_get.f ar ((l0.take 20).drop 16)).bind fun az => (if 4 ≤ 6 then (if 6 ≤ (l0.length : Int) then ((impl_get.f ar ((l0.take 6).drop 4)).bind fun aB => (if 2 ≤ ((l0.drop ((wrap64 ((wrap64 (Go.bits .and .u8 (rd l0 0) 15)) * 4)) : Int).toNat).length : Int) then ((impl_get.f ar ((l0.drop ((wrap64 ((wrap64 (Go.bits .and .u8 (rd l0 0) 15)) * 4)) : Int).toNat).take 2)).bind fun aD => (if 2 ≤ 4 then (if 4 ≤ ((l0.drop ((wrap64 ((wrap64 (Go.bits .and .u8 (rd l0 0) 15)) * 4)) : Int).toNat).length : Int) then ((impl_get.f ar (((l0.drop ((wrap64 ((wrap64 (Go.bits .and .u8 (rd l0 0) 15)) * 4)) : Int).toNat).take 4).drop 2)).bind fun aI => (if 4 ≤ 8 then (if 8 ≤ ((l0.drop ((wrap64 ((wrap64 (Go.bits .and .u8 (rd l0 0) 15)) * 4)) : Int).toNat).length : Int) then ((impl_get.f ar (((l0.drop ((wrap64 ((wrap64 (Go.bits .and .u8 (rd l0 0) 15)) * 4)) : Int).toNat).take 8).drop 4)).bind fun aV => (some (wrap64 (rd l0 9), ay, az, aB, aD, aI, aV, 0))) else (none)) else (none))) else (none)) else (none))) else (none))) else (none)) else (none))) else (none)) else (none))) else (none)) else (none)) else (none))) else (some (0, 0, 0, 0, 0, 0, 0, 3)))) else (none)) else (none)) = some (r1, r2, r3, r4, r5, r6, r7, r8) := by rw [if_neg (show ¬ (false = true) by decide)] at H; exact H
 clear H
 have H := H1
 clear H1
 obtain ⟨aa, hji1004⟩ : ∃ j_ : Int, (wrap64 ((wrap64 (Go.bits .and .u8 (rd l0 0) 15)) * 4)) = j_ := ⟨_, rfl⟩
 replace H : (if 0 ≤ (aa) then (if (aa) ≤ (l0.length : Int) then ((impl_Checksum.f ar (l0.take ((aa) : Int).toNat)).bind fun ax => (if ax = 0 then (if ((l0.drop ((aa) : Int).toNat).length : Int) < 8 then (some (0, 0, 0, 0, 0, 0, 0, 2)) else (if 9 < (l0.length : Int) then (if 12 ≤ 16 then (if 16 ≤ (l0.length : Int) then ((impl_get.f ar ((l0.take 16).drop 12)).bind fun ay => (if 16 ≤ 20 then (if 20 ≤ (l0.length : Int) then ((impl_get.f ar ((l0.take 20).drop 16)).bind fun az => (if 4 ≤ 6 then (if 6 ≤ (l0.length : Int) then ((impl_get.f ar ((l0.take 6).drop 4)).bind fun aB => (if 2 ≤ ((l0.drop ((aa) : Int).toNat).length : Int) then ((impl_get.f ar ((l0.drop ((aa) : Int).toNat).take 2)).bind fun aD => (if 2 ≤ 4 then (if 4 ≤ ((l0.drop ((aa) : Int).toNat).length : Int) then ((impl_get.f ar (((l0.drop ((aa) : Int).toNat).take 4).drop 2)).bind fun aI => (if 4 ≤ 8 then (if 8 ≤ ((l0.drop ((aa) : Int).toNat).length : Int) then ((impl_get.f ar (((l0.drop ((aa) : Int).toNat).take 8).drop 4)).bind fun aV => (some (wrap64 (rd l0 9), ay, az, aB, aD, aI, aV, 0))) else (none)) else (none))) else (none)) else (none))) else (none))) else (none)) else (none))) else (none)) else (none))) else (none)) else (none)) else (none))) else (some (0, 0, 0, 0, 0, 0, 0, 3)))) else (none)) else (none)) = some (r1, r2, r3, r4, r5, r6, r7, r8) := by first | (rw [hji1004] at H; exact H) | (simp only [hji1004] at H ⊢; exact H)
 have hji1004w : (IntKind.i64.wrap ((wrap64 (Go.bits .and .u8 (rd l0 0) 15)) * 4)) = aa := (i64_w _).trans hji1004
 by_cases aL : 0 ≤ (aa)
 rw [if_pos aL] at H
 have c1005b0 := eq_true aL
 have c1005b1 : decide (0 ≤ (aa)) = true := decide_eq_true aL
 clear aL
 by_cases aM : (aa) ≤ (l0.length : Int)
 rw [if_pos aM] at H
 have c1006b0 := eq_true aM
 have c1006b1 : decide ((aa) ≤ (l0.length : Int)) = true := decide_eq_true aM
 clear aM
 replace H := Option.bind_eq_some_iff.mp H
 obtain ⟨ax, A10070, H⟩ := H
 have A1007 := Aside0.mk A10070
 clear A10070
 by_cases aC : ax = 0
 rw [if_pos aC] at H
 have c1008b0 : (ax == 0) = true := beq_iff_eq.mpr aC
 have c1008b1 : (ax != 0) = false := bne_eq_false_iff_eq.mpr aC
 clear aC
 have c1009b0 := eq_true (dT : 0 ≤ (aa))
 have c1010b0 := eq_true (dT : (aa) ≤ (l0.length : Int))
 by_cases aE : ((l0.drop ((aa) : Int).toNat).length : Int) < 8
 rw [if_pos aE] at H
 have c1011b0 : decide (((l0.drop ((aa) : Int).toNat).length : Int) < 8) = true := decide_eq_true aE
 have c1011b1 : decide ((l0.drop ((aa) : Int).toNat).length < 8) = true := decide_eq_true (by omega)
 (try (have c1011b8 := c1011b0; simp only [List.length_drop, List.length_take] at c1011b8))
 (try (have c1011b9 := c1011b1; simp only [List.length_drop, List.length_take] at c1011b9))
 clear aE
 simp only [Option.some.injEq, Prod.mk.injEq] at H
 obtain ⟨rfl, rfl, rfl, rfl, rfl, rfl, rfl, rfl⟩ := H
 rotate_left
 rw [if_neg aE] at H
 have c1011b0 : decide (((l0.drop ((aa) : Int).toNat).length : Int) < 8) = false := decide_eq_false aE
 have c1011b1 : decide ((l0.drop ((aa) : Int).toNat).length < 8) = false := decide_eq_false (by omega)
 (try (have c1011b8 := c1011b0; simp only [List.length_drop, List.length_take] at c1011b8))
 (try (have c1011b9 := c1011b1; simp only [List.length_drop, List.length_take] at c1011b9))
 clear aE
 by_cases bc : 9 < (l0.length : Int)
 rw [if_pos bc] at H
 have c1012b0 : decide (9 < (l0.length : Int)) = true := decide_eq_true bc
 have c1012b1 : decide (9 < l0.length) = true := decide_eq_true (by omega)
 clear bc
 by_cases aN : 12 ≤ 16
 rw [if_pos aN] at H
 have c1013b0 := eq_true aN
 have c1013b1 : decide (12 ≤ 16) = true := decide_eq_true aN
 clear aN
 by_cases aO : 16 ≤ (l0.length : Int)
 rw [if_pos aO] at H
 have c1014b0 := eq_true aO
 have c1014b1 : decide (16 ≤ (l0.length : Int)) = true := decide_eq_true aO
 clear aO
 replace H := Option.bind_eq_some_iff.mp H
 obtain ⟨ay, A10150, H⟩ := H
 have A1015 := Aside0.mk A10150
 clear A10150
 by_cases aP : 16 ≤ 20
 rw [if_pos aP] at H
 have c1016b0 := eq_true aP
 have c1016b1 : decide (16 ≤ 20) = true := decide_eq_true aP
 clear aP
 by_cases aQ : 20 ≤ (l0.length : Int)
 rw [if_pos aQ] at H
 have c1017b0 := eq_true aQ
 have c1017b1 : decide (20 ≤ (l0.length : Int)) = true := decide_eq_true aQ
 clear aQ
 replace H := Option.bind_eq_some_iff.mp H
 obtain ⟨az, A10180, H⟩ := H
 have A1018 := Aside0.mk A10180
 clear A10180
 by_cases aR : 4 ≤ 6
 rw [if_pos aR] at H
 have c1019b0 := eq_true aR
 have c1019b1 : decide (4 ≤ 6) = true := decide_eq_true aR
 clear aR
 by_cases aS : 6 ≤ (l0.length : Int)
 rw [if_pos aS] at H
 have c1020b0 := eq_true aS
 have c1020b1 : decide (6 ≤ (l0.length : Int)) = true := decide_eq_true aS
 clear aS
 replace H := Option.bind_eq_some_iff.mp H
 obtain ⟨aB, A10210, H⟩ := H
 have A1021 := Aside0.mk A10210
 clear A10210
 by_cases aF : 2 ≤ ((l0.drop ((aa) : Int).toNat).length : Int)
 rw [if_pos aF] at H
 have c1022b0 := eq_true aF
 have c1022b1 : decide (2 ≤ ((l0.drop ((aa) : Int).toNat).length : Int)) = true := decide_eq_true aF
 (try (have c1022b3 : (2 ≤ ((c0 - ((aa) : Int).toNat : Nat) : Int)) = True := eq_true (by have hc_ := aJ.out; have hq_ := aF; simp only [List.length_drop, List.length_take] at hq_; omega)))
 clear aF
 replace H := Option.bind_eq_some_iff.mp H
 obtain ⟨aD, A10230, H⟩ := H
 have A1023 := Aside0.mk A10230
 clear A10230
 by_cases aT : 2 ≤ 4
 rw [if_pos aT] at H
 have c1024b0 := eq_true aT
 have c1024b1 : decide (2 ≤ 4) = true := decide_eq_true aT
 clear aT
 by_cases aG : 4 ≤ ((l0.drop ((aa) : Int).toNat).length : Int)
 rw [if_pos aG] at H
 have c1025b0 := eq_true aG
 have c1025b1 : decide (4 ≤ ((l0.drop ((aa) : Int).toNat).length : Int)) = true := decide_eq_true aG
 (try (have c1025b3 : (4 ≤ ((c0 - ((aa) : Int).toNat : Nat) : Int)) = True := eq_true (by have hc_ := aJ.out; have hq_ := aG; simp only [List.length_drop, List.length_take] at hq_; omega)))
 clear aG
 replace H := Option.bind_eq_some_iff.mp H
 obtain ⟨aI, A10260, H⟩ := H
 have A1026 := Aside0.mk A10260
 clear A10260
 by_cases aU : 4 ≤ 8
 rw [if_pos aU] at H
 have c1027b0 := eq_true aU
 have c1027b1 : decide (4 ≤ 8) = true := decide_eq_true aU
 clear aU
 by_cases aH : 8 ≤ ((l0.drop ((aa) : Int).toNat).length : Int)
 rw [if_pos aH] at H
 have c1028b0 := eq_true aH
 have c1028b1 : decide (8 ≤ ((l0.drop ((aa) : Int).toNat).length : Int)) = true := decide_eq_true aH
 (try (have c1028b3 : (8 ≤ ((c0 - ((aa) : Int).toNat : Nat) : Int)) = True := eq_true (by have hc_ := aJ.out; have hq_ := aH; simp only [List.length_drop, List.length_take] at hq_; omega)))
 clear aH
 replace H := Option.bind_eq_some_iff.mp H
 obtain ⟨aV, A10290, H⟩ := H
 have A1029 := Aside0.mk A10290
 clear A10290
 simp only [Option.some.injEq, Prod.mk.injEq] at H
 obtain ⟨rfl, rfl, rfl, rfl, rfl, rfl, rfl, rfl⟩ := H
 rotate_left
 rw [if_neg aH] at H
 exact absurd H (by simp)
 rw [if_neg aU] at H
 exact absurd H (by simp)
 rw [if_neg aG] at H
 exact absurd H (by simp)
 rw [if_neg aT] at H
 exact absurd H (by simp)
 rw [if_neg aF] at H
 exact absurd H (by simp)
 rw [if_neg aS] at H
 exact absurd H (by simp)
 rw [if_neg aR] at H
 exact absurd H (by simp)
 rw [if_neg aQ] at H
 exact absurd H (by simp)
 rw [if_neg aP] at H
 exact absurd H (by simp)
 rw [if_neg aO] at H
 exact absurd H (by simp)
 rw [if_neg aN] at H
 exact absurd H (by simp)
 rw [if_neg bc] at H
 exact absurd H (by simp)
 rw [if_neg aC] at H
 have c1008b0 : (ax == 0) = false := beq_eq_false_iff_ne.mpr aC
 have c1008b1 : (ax != 0) = true := bne_iff_ne.mpr aC
 simp only [Option.some.injEq, Prod.mk.injEq] at H
 obtain ⟨rfl, rfl, rfl, rfl, rfl, rfl, rfl, rfl⟩ := H
 rotate_left
 rw [if_neg aM] at H
 exact absurd H (by simp)
 rw [if_neg aL] at H
 exact absurd H (by simp)
 {
 obtain ⟨⟨bp, bq, br, bs, bu, bv, bw⟩, bz, bA, bB, bC, bD, bE, bF⟩ := cells7 ab.out
 go_wp2_with (first | ((with_reducible refine gate_store (t := 56) (p := 2) rfl ?_); (try (rw [drewN_self wc]; generalize hq_ : World.drewN wc _ = wc; replace ab := Aside0.mk (blk_at hq_ ab.out); replace HB := Aside0.mk (below_at hq_ HB.out); clear hq_; (try (obtain ⟨⟨ad, ae, af, ag, ah, ai, aj⟩, ak, al, am, an, ao, ap, aq⟩ := cells7 ab.out)))); refine storeE (put7 wc ac (.int .i64 0) (.int .i64 0) (.int .i64 0) (.int .i64 0) (.int .i64 0) (.int .i64 0) (.int .i64 0)) ?_; intro bg hw; have n0_ : Aside0 (bg.heap[ac]? = some (.cells #[.int .i64 0, .int .i64 0, .int .i64 0, .int .i64 0, .int .i64 0, .int .i64 0, .int .i64 0] 56 (0, 0))) := ⟨(by rw [hw]; exact (by apply set7; exact ab.out))⟩; have n1_ : Aside0 (Below w.heap.size w bg) := ⟨(by rw [hw]; exact wB)⟩; clear hw; clear ab; clear HB; have ab := n0_; have HB := n1_; clear n0_ n1_))
 refine bodyPost_ret (results_ct rfl _ _ ac 56 #[.int .i64 0, .int .i64 0, .int .i64 0, .int .i64 0, .int .i64 0, .int .i64 0, .int .i64 0] (0, 0) _ rfl (Bh ab) Try.underlying56 rfl (by kernel_rfl)) rfl ?_
 exact ⟨eR, wB⟩
 }
 all_goals (
 obtain ⟨i02001, hi02001, _, hsz2001, _⟩ := info_parts info5
 obtain ⟨hcut2001, hA2001, hC2001⟩ := print_take_of (P := Try.prog) (Value.int .u8) 0 22 5 .i64 Try.underlying22 hi02001 hsz2001 (some ad431) c0 l0 (aa) dT dT aJ.out
 have HR433 := Aside0.mk (Kd.C_of_reads (h1 := fun _ => rfl) (hA2001 _ (Kd.reads_of_C HR0.out)))
 have be := Aside0.mk hC2001
 clear hA2001 hC2001 hi02001 hsz2001
 )
 {
 go_wp2_with (first | ((with_reducible refine gate_callee (f := 38) rfl ?_); refine gL (hargs := (by (try simp only [List.map_toArray, List.map_cons, List.map_nil]); first | done | (rw [show (l0.take ((aa) : Int).toNat).length = (aa).toNat from (by rw [List.length_take]; have h_ : ((aa) : Int) ≤ (l0.length : Int) := dT; omega)] <;> rfl) | (simp only [hji1004]; rfl) | rfl | (simp only [List.length_drop, List.length_take]; rfl))) (some 34) Try.func38 #[.slice (some ad431) (l0.take ((aa) : Int).toNat).length c0] ?_; (with_reducible refine (impl_Checksum.calls ar _ _ (l0.take ((aa) : Int).toNat) ax _ ?side1 ?side2 A1007.out).mono ?_); (case side1 => exact Kd.C_below HR433.out wB); (case side2 => exact be.out); rintro e w' ⟨rfl, ⟨nd, rfl⟩⟩; refine ⟨_, rfl, ?_⟩; (try (rw [drewN_self wc]; generalize hq_ : World.drewN wc _ = wc; replace ab := Aside0.mk (blk_at hq_ ab.out); replace HB := Aside0.mk (below_at hq_ HB.out); clear hq_; (try (obtain ⟨⟨ad, ae, af, ag, ah, ai, aj⟩, ak, al, am, an, ao, ap, aq⟩ := cells7 ab.out)))); obtain ⟨i02002, hi02002, _, hsz2002, _⟩ := info_parts info5; obtain ⟨A2002, hcut2002, hA2002, hC2002⟩ := print_drop_of (P := Try.prog) (Value.int .u8) 0 22 5 .i64 Try.underlying22 hi02002 hsz2002 (some ad431) c0 l0 (aa) dT dT aJ.out; have HR435 := Aside0.mk (Kd.C_of_reads (h1 := fun _ => rfl) (hA2002 _ (Kd.reads_of_C HR0.out))); have bd := Aside0.mk hC2002; clear hA2002 hC2002 hi02002 hsz2002; obtain ⟨⟨bG, bH, bI, bJ, bK, bL, bM⟩, bN, bO, bP, bQ, bR, bS, bT⟩ := cells7 ab.out) | ((with_reducible refine gate_store (t := 56) (p := 2) rfl ?_); (try (rw [drewN_self wc]; generalize hq_ : World.drewN wc _ = wc; replace ab := Aside0.mk (blk_at hq_ ab.out); replace HB := Aside0.mk (below_at hq_ HB.out); clear hq_; (try (obtain ⟨⟨ad, ae, af, ag, ah, ai, aj⟩, ak, al, am, an, ao, ap, aq⟩ := cells7 ab.out)))); refine storeE (put7 wc ac (.int .i64 0) (.int .i64 0) (.int .i64 0) (.int .i64 0) (.int .i64 0) (.int .i64 0) (.int .i64 0)) ?_; intro bh hw; have n0_ : Aside0 (bh.heap[ac]? = some (.cells #[.int .i64 0, .int .i64 0, .int .i64 0, .int .i64 0, .int .i64 0, .int .i64 0, .int .i64 0] 56 (0, 0))) := ⟨(by rw [hw]; exact (by apply set7; exact ab.out))⟩; have n1_ : Aside0 (Below w.heap.size w bh) := ⟨(by rw [hw]; exact wB)⟩; clear hw; clear ab; clear HB; have ab := n0_; have HB := n1_; clear n0_ n1_))
 refine bodyPost_ret (results_ct rfl _ _ ac 56 #[.int .i64 0, .int .i64 0, .int .i64 0, .int .i64 0, .int .i64 0, .int .i64 0, .int .i64 0] (0, 0) _ rfl (Bh ab) Try.underlying56 rfl (by kernel_rfl)) rfl ?_
 exact ⟨by first | rfl | (simp [errW_none, errW_some] <;> rfl) | (simp only [← hji1004]; first | rfl | (simp [errW_none, errW_some] <;> rfl)) | (simp [*, errW_none, errW_some] <;> rfl), wB⟩
 }
 {
 try go_wp2_with (first | ((with_reducible refine gate_callee (f := 38) rfl ?_); refine gL (hargs := (by (try simp only [List.map_toArray, List.map_cons, List.map_nil]); first | done | (rw [show (l0.take ((aa) : Int).toNat).length = (aa).toNat from (by rw [List.length_take]; have h_ : ((aa) : Int) ≤ (l0.length : Int) := dT; omega)] <;> rfl) | (simp only [hji1004]; rfl) | rfl | (simp only [List.length_drop, List.length_take]; rfl))) (some 34) Try.func38 #[.slice (some ad431) (l0.take ((aa) : Int).toNat).length c0] ?_; (with_reducible refine (impl_Checksum.calls ar _ _ (l0.take ((aa) : Int).toNat) ax _ ?side1 ?side2 A1007.out).mono ?_); (case side1 => exact Kd.C_below HR433.out wB); (case side2 => exact be.out); rintro e w' ⟨rfl, ⟨nd, rfl⟩⟩; refine ⟨_, rfl, ?_⟩; (try (rw [drewN_self wc]; generalize hq_ : World.drewN wc _ = wc; replace ab := Aside0.mk (blk_at hq_ ab.out); replace HB := Aside0.mk (below_at hq_ HB.out); clear hq_; (try (obtain ⟨⟨ad, ae, af, ag, ah, ai, aj⟩, ak, al, am, an, ao, ap, aq⟩ := cells7 ab.out)))); obtain ⟨i02002, hi02002, _, hsz2002, _⟩ := info_parts info5; obtain ⟨A2002, hcut2002, hA2002, hC2002⟩ := print_drop_of (P := Try.prog) (Value.int .u8) 0 22 5 .i64 Try.underlying22 hi02002 hsz2002 (some ad431) c0 l0 (aa) dT dT aJ.out; have HR435 := Aside0.mk (Kd.C_of_reads (h1 := fun _ => rfl) (hA2002 _ (Kd.reads_of_C HR0.out))); have bd := Aside0.mk hC2002; clear hA2002 hC2002 hi02002 hsz2002))
 have n0_ := Aside0.mk (blk_drew ab.out)
 have n1_ := Aside0.mk (below_drew1 HB.out)
 clear ab
 clear HB
 have ab := n0_
 have HB := n1_
 clear n0_ n1_
 have p436 : 0 ≤ (9 : Int) := (by omega)
 have q436 : 9 < (l0.length : Int) := dT
 obtain ⟨ad436, e436, hx436_0⟩ := Kd.at_int HR0.out 9 p436 q436
 have hw436_0 := hx436_0
 (try rw [show ((9 : Int)).toNat = 9 from rfl] at hw436_0)
 (try rw [show 9 * 1 = 9 from rfl] at hw436_0)
 (try simp only [Nat.reduceMul, Nat.reduceEqDiff, Go.Addr.add, ↓reduceIte] at hw436_0)
 obtain rfl : ad431 = ad436 := (by injection e436)
 (try simp only [show (9 : Int).toNat = 9 from rfl, Nat.reduceMul, Nat.reduceEqDiff, Go.Addr.add, ↓reduceIte] at hx436_0)
 have qi436 : (9 < l0.length) = True := eq_true (by omega)
 (try rw [show ((9 : Int)).toNat = 9 from rfl] at hx436_0)
 replace hx436_0 := (HB.out.cell (World.block_lt_of_cell? w _ hx436_0)).trans hx436_0
 replace p436 := eq_true p436
 replace q436 := eq_true q436
 obtain ⟨i02004, hi02004, _, hsz2004, _⟩ := info_parts info5
 obtain ⟨A2004, hcut2004, hA2004, hC2004⟩ := print_mid_of (P := Try.prog) (Value.int .u8) 0 22 5 .i64 .i64 Try.underlying22 hi02004 hsz2004 (some ad431) c0 l0 12 16 (by omega) (by first | omega | exact dT) dT aJ.out
 have HR437 := Aside0.mk (Kd.C_of_reads (h1 := fun _ => rfl) (hA2004 _ (Kd.reads_of_C HR0.out)))
 have bj := Aside0.mk hC2004
 clear hA2004 hC2004 hi02004 hsz2004
 obtain ⟨i02005, hi02005, _, hsz2005, _⟩ := info_parts info5
 obtain ⟨A2005, hcut2005, hA2005, hC2005⟩ := print_mid_of (P := Try.prog) (Value.int .u8) 0 22 5 .i64 .i64 Try.underlying22 hi02005 hsz2005 (some ad431) c0 l0 16 20 (by omega) (by first | omega | exact dT) dT aJ.out
 have HR439 := Aside0.mk (Kd.C_of_reads (h1 := fun _ => rfl) (hA2005 _ (Kd.reads_of_C HR0.out)))
 have bk := Aside0.mk hC2005
 clear hA2005 hC2005 hi02005 hsz2005
 obtain ⟨i02006, hi02006, _, hsz2006, _⟩ := info_parts info5
 obtain ⟨A2006, hcut2006, hA2006, hC2006⟩ := print_mid_of (P := Try.prog) (Value.int .u8) 0 22 5 .i64 .i64 Try.underlying22 hi02006 hsz2006 (some ad431) c0 l0 4 6 (by omega) (by first | omega | exact dT) dT aJ.out
 have HR441 := Aside0.mk (Kd.C_of_reads (h1 := fun _ => rfl) (hA2006 _ (Kd.reads_of_C HR0.out)))
 have bl := Aside0.mk hC2006
 clear hA2006 hC2006 hi02006 hsz2006
 obtain ⟨i02007, hi02007, _, hsz2007, _⟩ := info_parts info5
 obtain ⟨hcut2007, hA2007, hC2007⟩ := print_take_of (P := Try.prog) (Value.int .u8) 0 22 5 .i64 Try.underlying22 hi02007 hsz2007 A2002 (c0 - (aa).toNat) (l0.drop ((aa) : Int).toNat) 2 (by omega) dT bd.out
 have HR443 := Aside0.mk (Kd.C_of_reads (h1 := fun _ => rfl) (hA2007 _ (Kd.reads_of_C HR435.out)))
 have bm := Aside0.mk hC2007
 clear hA2007 hC2007 hi02007 hsz2007
 (try (have hcu2007 := hcut2007; (try simp only [Int.reduceToNat] at hcu2007); rw [show ((l0.drop ((aa) : Int).toNat).take 2).length = 2 from (by rw [List.length_take]; have h_ : (2 : Int) ≤ ((l0.drop ((aa) : Int).toNat).length : Int) := dT; omega), show (l0.drop ((aa) : Int).toNat).length = (l0.length - (aa).toNat) from List.length_drop] at hcu2007))
 obtain ⟨i02008, hi02008, _, hsz2008, _⟩ := info_parts info5
 obtain ⟨A2008, hcut2008, hA2008, hC2008⟩ := print_mid_of (P := Try.prog) (Value.int .u8) 0 22 5 .i64 .i64 Try.underlying22 hi02008 hsz2008 A2002 (c0 - (aa).toNat) (l0.drop ((aa) : Int).toNat) 2 4 (by omega) (by first | omega | exact dT) dT bd.out
 have HR445 := Aside0.mk (Kd.C_of_reads (h1 := fun _ => rfl) (hA2008 _ (Kd.reads_of_C HR435.out)))
 have bn := Aside0.mk hC2008
 clear hA2008 hC2008 hi02008 hsz2008
 (try (have hcu2008 := hcut2008; (try simp only [Int.reduceToNat] at hcu2008); rw [show (((l0.drop ((aa) : Int).toNat).take 4).drop 2).length = (4 - 2) from (by rw [List.length_drop, List.length_take]; have h_ : (4 : Int) ≤ ((l0.drop ((aa) : Int).toNat).length : Int) := dT; omega), show (l0.drop ((aa) : Int).toNat).length = (l0.length - (aa).toNat) from List.length_drop] at hcu2008))
 obtain ⟨i02009, hi02009, _, hsz2009, _⟩ := info_parts info5
 obtain ⟨A2009, hcut2009, hA2009, hC2009⟩ := print_mid_of (P := Try.prog) (Value.int .u8) 0 22 5 .i64 .i64 Try.underlying22 hi02009 hsz2009 A2002 (c0 - (aa).toNat) (l0.drop ((aa) : Int).toNat) 4 8 (by omega) (by first | omega | exact dT) dT bd.out
 have HR447 := Aside0.mk (Kd.C_of_reads (h1 := fun _ => rfl) (hA2009 _ (Kd.reads_of_C HR435.out)))
 have bo := Aside0.mk hC2009
 clear hA2009 hC2009 hi02009 hsz2009
 (try (have hcu2009 := hcut2009; (try simp only [Int.reduceToNat] at hcu2009); rw [show (((l0.drop ((aa) : Int).toNat).take 8).drop 4).length = (8 - 4) from (by rw [List.length_drop, List.length_take]; have h_ : (8 : Int) ≤ ((l0.drop ((aa) : Int).toNat).length : Int) := dT; omega), show (l0.drop ((aa) : Int).toNat).length = (l0.length - (aa).toNat) from List.length_drop] at hcu2009))
 refine start_ (n := 25) (S := fun w' => w'.cell? ⟨ad431.block, ad431.off + 9, none⟩ = some (.int .u8 (rd l0 9))) (ds := []) #[false, false, false, false, false, false, false, false, false, false, false, false, false, false, false, false, false, false, false, false, false, false, false, false, false] (by kernel_rfl) rfl rfl (((HB.out.cell (World.block_lt_of_cell? w _ hw436_0)).trans hw436_0)) (fun hHeld => ?_); refine with_tabW impl_ReadQuote.tab13 impl_ReadQuote.bits13 (fun HT_ HW_ => ?_)
 generalize wc.drew = aw at ab HB HR437 HR439 HR441 HR443 HR445 HR447 hx436_0 hHeld ⊢
 refine pure_ (i := 0) (N := some 44) (v := ?_) (a' := ?_) #[true, false, false, false, false, false, false, false, false, false, false, false, false, false, false, false, false, false, false, false, false, false, false, false, false] rfl rfl (any_of HT_.out (by kernel_rfl)) (fun _ _ _ h => h) (Or.inl ⟨by rfl, ?_⟩) ?_ ?_
 rotate_left
 {
 intro w'
 go_simp
 with_reducible rfl
 }
 rotate_left
 {
 simp only [Act.put, List.setIfInBounds_toArray, List.set_cons_zero, List.set_cons_succ, i64_w, i32_w]
 rfl
 }
 refine pure_ (i := 1) (N := some 45) (v := ?_) (a' := ?_) #[true, true, false, false, false, false, false, false, false, false, false, false, false, false, false, false, false, false, false, false, false, false, false, false, false] rfl rfl (any_of HT_.out (by kernel_rfl)) (fun _ _ _ h => h) (Or.inl ⟨by rfl, ?_⟩) ?_ ?_
 rotate_left
 {
 intro w'
 go_simp
 with_reducible rfl
 }
 rotate_left
 {
 simp only [Act.put, List.setIfInBounds_toArray, List.set_cons_zero, List.set_cons_succ, i64_w, i32_w]
 rfl
 }
 refine pure_ (i := 4) (N := some 48) (v := ?_) (a' := ?_) #[true, true, false, false, true, false, false, false, false, false, false, false, false, false, false, false, false, false, false, false, false, false, false, false, false] rfl rfl (any_of HT_.out (by kernel_rfl)) (fun _ _ _ h => h) (Or.inl ⟨by rfl, ?_⟩) ?_ ?_
 rotate_left
 {
 intro w'
 go_simp
 with_reducible rfl
 }
 rotate_left
 {
 simp only [Act.put, List.setIfInBounds_toArray, List.set_cons_zero, List.set_cons_succ, i64_w, i32_w]
 rfl
 }
 refine pure_ (i := 5) (N := some 49) (v := ?_) (a' := ?_) #[true, true, false, false, true, true, false, false, false, false, false, false, false, false, false, false, false, false, false, false, false, false, false, false, false] rfl rfl (any_of HT_.out (by kernel_rfl)) (fun _ _ _ h => h) (Or.inl ⟨by rfl, ?_⟩) ?_ ?_
 rotate_left
 {
 intro w'
 go_simp
 with_reducible rfl
 }
 rotate_left
 {
 simp only [Act.put, List.setIfInBounds_toArray, List.set_cons_zero, List.set_cons_succ, i64_w, i32_w]
 rfl
 }
 refine pure_ (i := 7) (N := some 51) (v := ?_) (a' := ?_) #[true, true, false, false, true, true, false, true, false, false, false, false, false, false, false, false, false, false, false, false, false, false, false, false, false] rfl rfl (any_of HT_.out (by kernel_rfl)) (fun _ _ _ h => h) (Or.inl ⟨by rfl, ?_⟩) ?_ ?_
 rotate_left
 {
 intro w'
 go_simp
 with_reducible rfl
 }
 rotate_left
 {
 simp only [Act.put, List.setIfInBounds_toArray, List.set_cons_zero, List.set_cons_succ, i64_w, i32_w]
 rfl
 }
 refine pure_ (i := 8) (N := some 52) (v := ?_) (a' := ?_) #[true, true, false, false, true, true, false, true, true, false, false, false, false, false, false, false, false, false, false, false, false, false, false, false, false] rfl rfl (any_of HT_.out (by kernel_rfl)) (fun _ _ _ h => h) (Or.inl ⟨by rfl, ?_⟩) ?_ ?_
 rotate_left
 {
 intro w'
 go_simp
 with_reducible rfl
 }
 rotate_left
 {
 simp only [Act.put, List.setIfInBounds_toArray, List.set_cons_zero, List.set_cons_succ, i64_w, i32_w]
 rfl
 }
 refine pure_ (i := 10) (N := some 54) (v := ?_) (a' := ?_) #[true, true, false, false, true, true, false, true, true, false, true, false, false, false, false, false, false, false, false, false, false, false, false, false, false] rfl rfl (any_of HT_.out (by kernel_rfl)) (fun _ _ _ h => h) (Or.inl ⟨by rfl, ?_⟩) ?_ ?_
 rotate_left
 {
 intro w'
 go_simp
 with_reducible rfl
 }
 rotate_left
 {
 simp only [Act.put, List.setIfInBounds_toArray, List.set_cons_zero, List.set_cons_succ, i64_w, i32_w]
 rfl
 }
 refine pure_ (i := 11) (N := some 55) (v := ?_) (a' := ?_) #[true, true, false, false, true, true, false, true, true, false, true, true, false, false, false, false, false, false, false, false, false, false, false, false, false] rfl rfl (any_of HT_.out (by kernel_rfl)) (fun _ _ _ h => h) (Or.inl ⟨by rfl, ?_⟩) ?_ ?_
 rotate_left
 {
 intro w'
 go_simp
 with_reducible rfl
 }
 rotate_left
 {
 simp only [Act.put, List.setIfInBounds_toArray, List.set_cons_zero, List.set_cons_succ, i64_w, i32_w]
 rfl
 }
 refine pure_ (i := 13) (N := some 57) (v := ?_) (a' := ?_) #[true, true, false, false, true, true, false, true, true, false, true, true, false, true, false, false, false, false, false, false, false, false, false, false, false] rfl rfl (any_of HT_.out (by kernel_rfl)) (fun _ _ _ h => h) (Or.inl ⟨by rfl, ?_⟩) ?_ ?_
 rotate_left
 {
 intro w'
 go_simp
 with_reducible rfl
 }
 rotate_left
 {
 simp only [Act.put, List.setIfInBounds_toArray, List.set_cons_zero, List.set_cons_succ, i64_w, i32_w]
 rfl
 }
 refine pure_ (i := 14) (N := some 58) (v := ?_) (a' := ?_) #[true, true, false, false, true, true, false, true, true, false, true, true, false, true, true, false, false, false, false, false, false, false, false, false, false] rfl rfl (any_of HT_.out (by kernel_rfl)) (fun _ _ _ h => h) (Or.inl ⟨by rfl, ?_⟩) ?_ ?_
 rotate_left
 {
 intro w'
 go_simp
 with_reducible rfl
 }
 rotate_left
 {
 simp only [Act.put, List.setIfInBounds_toArray, List.set_cons_zero, List.set_cons_succ, i64_w, i32_w]
 rfl
 }
 refine pure_ (i := 16) (N := some 60) (v := ?_) (a' := ?_) #[true, true, false, false, true, true, false, true, true, false, true, true, false, true, true, false, true, false, false, false, false, false, false, false, false] rfl rfl (any_of HT_.out (by kernel_rfl)) (fun _ _ _ h => h) (Or.inl ⟨by rfl, ?_⟩) ?_ ?_
 rotate_left
 {
 intro w'
 go_simp
 with_reducible rfl
 }
 rotate_left
 {
 simp only [Act.put, List.setIfInBounds_toArray, List.set_cons_zero, List.set_cons_succ, i64_w, i32_w]
 rfl
 }
 refine pure_ (i := 17) (N := some 61) (v := ?_) (a' := ?_) #[true, true, false, false, true, true, false, true, true, false, true, true, false, true, true, false, true, true, false, false, false, false, false, false, false] rfl rfl (any_of HT_.out (by kernel_rfl)) (fun _ _ _ h => h) (Or.inl ⟨by rfl, ?_⟩) ?_ ?_
 rotate_left
 {
 intro w'
 go_simp
 with_reducible rfl
 }
 rotate_left
 {
 simp only [Act.put, List.setIfInBounds_toArray, List.set_cons_zero, List.set_cons_succ, i64_w, i32_w]
 rfl
 }
 refine pure_ (i := 19) (N := some 63) (v := ?_) (a' := ?_) #[true, true, false, false, true, true, false, true, true, false, true, true, false, true, true, false, true, true, false, true, false, false, false, false, false] rfl rfl (any_of HT_.out (by kernel_rfl)) (fun _ _ _ h => h) (Or.inl ⟨by rfl, ?_⟩) ?_ ?_
 rotate_left
 {
 intro w'
 go_simp
 with_reducible rfl
 }
 rotate_left
 {
 simp only [Act.put, List.setIfInBounds_toArray, List.set_cons_zero, List.set_cons_succ, i64_w, i32_w]
 rfl
 }
 refine pure_ (i := 20) (N := some 64) (v := ?_) (a' := ?_) #[true, true, false, false, true, true, false, true, true, false, true, true, false, true, true, false, true, true, false, true, true, false, false, false, false] rfl rfl (any_of HT_.out (by kernel_rfl)) (fun _ _ _ h => h) (Or.inl ⟨by rfl, ?_⟩) ?_ ?_
 rotate_left
 {
 intro w'
 go_simp
 with_reducible rfl
 }
 rotate_left
 {
 simp only [Act.put, List.setIfInBounds_toArray, List.set_cons_zero, List.set_cons_succ, i64_w, i32_w]
 rfl
 }
 refine take_ (i := 2) (N := some 46) (v := ?_) (a' := ?_) #[true, true, true, false, true, true, false, true, true, false, true, true, false, true, true, false, true, true, false, true, true, false, false, false, false] rfl rfl (take_ofW HT_.out HW_.out (by kernel_rfl)) (fun _ _ _ h => h) (Or.inl ⟨by rfl, ?_⟩) hHeld ?_ ?_
 rotate_left
 {
 intro w' s0
 go_simp
 with_reducible rfl
 }
 rotate_left
 {
 simp only [Act.put, List.setIfInBounds_toArray, List.set_cons_zero, List.set_cons_succ, i64_w, i32_w]
 rfl
 }
 refine pure_ (i := 3) (N := some 47) (v := ?_) (a' := ?_) #[true, true, true, true, true, true, false, true, true, false, true, true, false, true, true, false, true, true, false, true, true, false, false, false, false] rfl rfl (any_of HT_.out (by kernel_rfl)) (fun _ _ _ h => h) (Or.inl ⟨by rfl, ?_⟩) ?_ ?_
 rotate_left
 {
 intro w'
 go_simp
 with_reducible rfl
 }
 rotate_left
 {
 simp only [Act.put, List.setIfInBounds_toArray, List.set_cons_zero, List.set_cons_succ, i64_w, i32_w]
 rfl
 }
 refine one_ (i := 6) (N := some 50) #[true, true, true, true, true, true, true, true, true, false, true, true, false, true, true, false, true, true, false, true, true, false, false, false, false] rfl rfl (one_of HT_.out (by kernel_rfl)) (by decide) (fun K hK => ?_)
 refine goes_ Try.func39 (by kernel_rfl) rfl #[.slice A2004 ((l0.take 16).drop 12).length (c0 - 12)] (by rfl) rfl rfl (by (try simp only [List.map_toArray, List.map_cons, List.map_nil]); first | done | (rw [show ((l0.take 16).drop 12).length = (16 - 12) from (by rw [List.length_drop, List.length_take]; have h_ : (16 : Int) ≤ (l0.length : Int) := dT; omega)] <;> rfl) | rfl | (simp only [List.length_drop, List.length_take]; rfl)) ?_
 with_reducible refine (impl_get.calls ar _ _ ((l0.take 16).drop 12) ay _ ?side1 ?side2 A1015.out).mono ?_
 (case side1 => exact Kd.C_below HR437.out wB)
 (case side2 => exact bj.out)
 rintro e w' ⟨rfl, ⟨nd, rfl⟩⟩
 refine ⟨_, rfl, ?_⟩
 refine hK.out _ _ (((HB.out.cell (World.block_lt_of_cell? w _ hw436_0)).trans hw436_0)) (fun hHeld => ?_)
 clear hK K
 refine norm_ (a' := ?_) ?_ ?_
 rotate_left
 {
 show Act.put _ (some 50) _ = _
 simp only [Act.put, List.setIfInBounds_toArray, List.set_cons_zero, List.set_cons_succ, i64_w, i32_w]
 rfl
 }
 refine one_ (i := 9) (N := some 53) #[true, true, true, true, true, true, true, true, true, true, true, true, false, true, true, false, true, true, false, true, true, false, false, false, false] rfl rfl (one_of HT_.out (by kernel_rfl)) (by decide) (fun K hK => ?_)
 refine goes_ Try.func39 (by kernel_rfl) rfl #[.slice A2005 ((l0.take 20).drop 16).length (c0 - 16)] (by rfl) rfl rfl (by (try simp only [List.map_toArray, List.map_cons, List.map_nil]); first | done | (rw [show ((l0.take 20).drop 16).length = (20 - 16) from (by rw [List.length_drop, List.length_take]; have h_ : (20 : Int) ≤ (l0.length : Int) := dT; omega)] <;> rfl) | rfl | (simp only [List.length_drop, List.length_take]; rfl)) ?_
 with_reducible refine (impl_get.calls ar _ _ ((l0.take 20).drop 16) az _ ?side1 ?side2 A1018.out).mono ?_
 (case side1 => repeat (first | exact (Kd.C_below HR439.out wB) | (with_reducible refine Kd.C_alloc ?_ _) | (with_reducible refine Kd.C_drewN ?_ _) | (with_reducible refine Kd.C_drew ?_)))
 (case side2 => exact bk.out)
 rintro e w' ⟨rfl, ⟨nd, rfl⟩⟩
 refine ⟨_, rfl, ?_⟩
 refine hK.out _ _ (((HB.out.cell (World.block_lt_of_cell? w _ hw436_0)).trans hw436_0)) (fun hHeld => ?_)
 clear hK K
 refine norm_ (a' := ?_) ?_ ?_
 rotate_left
 {
 show Act.put _ (some 53) _ = _
 simp only [Act.put, List.setIfInBounds_toArray, List.set_cons_zero, List.set_cons_succ, i64_w, i32_w]
 rfl
 }
 refine one_ (i := 12) (N := some 56) #[true, true, true, true, true, true, true, true, true, true, true, true, true, true, true, false, true, true, false, true, true, false, false, false, false] rfl rfl (one_of HT_.out (by kernel_rfl)) (by decide) (fun K hK => ?_)
 refine goes_ Try.func39 (by kernel_rfl) rfl #[.slice A2006 ((l0.take 6).drop 4).length (c0 - 4)] (by rfl) rfl rfl (by (try simp only [List.map_toArray, List.map_cons, List.map_nil]); first | done | (rw [show ((l0.take 6).drop 4).length = (6 - 4) from (by rw [List.length_drop, List.length_take]; have h_ : (6 : Int) ≤ (l0.length : Int) := dT; omega)] <;> rfl) | rfl | (simp only [List.length_drop, List.length_take]; rfl)) ?_
 with_reducible refine (impl_get.calls ar _ _ ((l0.take 6).drop 4) aB _ ?side1 ?side2 A1021.out).mono ?_
 (case side1 => repeat (first | exact (Kd.C_below HR441.out wB) | (with_reducible refine Kd.C_alloc ?_ _) | (with_reducible refine Kd.C_drewN ?_ _) | (with_reducible refine Kd.C_drew ?_)))
 (case side2 => exact bl.out)
 rintro e w' ⟨rfl, ⟨nd, rfl⟩⟩
 refine ⟨_, rfl, ?_⟩
 refine hK.out _ _ (((HB.out.cell (World.block_lt_of_cell? w _ hw436_0)).trans hw436_0)) (fun hHeld => ?_)
 clear hK K
 refine norm_ (a' := ?_) ?_ ?_
 rotate_left
 {
 show Act.put _ (some 56) _ = _
 simp only [Act.put, List.setIfInBounds_toArray, List.set_cons_zero, List.set_cons_succ, i64_w, i32_w]
 rfl
 }
 refine one_ (i := 15) (N := some 59) #[true, true, true, true, true, true, true, true, true, true, true, true, true, true, true, true, true, true, false, true, true, false, false, false, false] rfl rfl (one_of HT_.out (by kernel_rfl)) (by decide) (fun K hK => ?_)
 refine goes_ Try.func39 (by kernel_rfl) rfl #[.slice A2002 ((l0.drop ((aa) : Int).toNat).take 2).length (c0 - (aa).toNat)] (by rfl) rfl rfl (by (try simp only [List.map_toArray, List.map_cons, List.map_nil]); first | done | (rw [show ((l0.drop ((aa) : Int).toNat).take 2).length = 2 from (by rw [List.length_take]; have h_ : (2 : Int) ≤ ((l0.drop ((aa) : Int).toNat).length : Int) := dT; omega)] <;> rfl) | (simp only [hji1004]; rfl) | rfl | (simp only [List.length_drop, List.length_take]; rfl)) ?_
 with_reducible refine (impl_get.calls ar _ _ ((l0.drop ((aa) : Int).toNat).take 2) aD _ ?side1 ?side2 A1023.out).mono ?_
 (case side1 => repeat (first | exact (Kd.C_below HR443.out wB) | (with_reducible refine Kd.C_alloc ?_ _) | (with_reducible refine Kd.C_drewN ?_ _) | (with_reducible refine Kd.C_drew ?_)))
 (case side2 => exact bm.out)
 rintro e w' ⟨rfl, ⟨nd, rfl⟩⟩
 refine ⟨_, rfl, ?_⟩
 refine hK.out _ _ (((HB.out.cell (World.block_lt_of_cell? w _ hw436_0)).trans hw436_0)) (fun hHeld => ?_)
 clear hK K
 refine norm_ (a' := ?_) ?_ ?_
 rotate_left
 {
 show Act.put _ (some 59) _ = _
 simp only [Act.put, List.setIfInBounds_toArray, List.set_cons_zero, List.set_cons_succ, i64_w, i32_w]
 rfl
 }
 refine one_ (i := 18) (N := some 62) #[true, true, true, true, true, true, true, true, true, true, true, true, true, true, true, true, true, true, true, true, true, false, false, false, false] rfl rfl (one_of HT_.out (by kernel_rfl)) (by decide) (fun K hK => ?_)
 refine goes_ Try.func39 (by kernel_rfl) rfl #[.slice A2008 (((l0.drop ((aa) : Int).toNat).take 4).drop 2).length ((c0 - (aa).toNat) - 2)] (by rfl) rfl rfl (by (try simp only [List.map_toArray, List.map_cons, List.map_nil]); first | done | (rw [show (((l0.drop ((aa) : Int).toNat).take 4).drop 2).length = (4 - 2) from (by rw [List.length_drop, List.length_take]; have h_ : (4 : Int) ≤ ((l0.drop ((aa) : Int).toNat).length : Int) := dT; omega)] <;> rfl) | (simp only [hji1004]; rfl) | rfl | (simp only [List.length_drop, List.length_take]; rfl)) ?_
 with_reducible refine (impl_get.calls ar _ _ (((l0.drop ((aa) : Int).toNat).take 4).drop 2) aI _ ?side1 ?side2 A1026.out).mono ?_
 (case side1 => repeat (first | exact (Kd.C_below HR445.out wB) | (with_reducible refine Kd.C_alloc ?_ _) | (with_reducible refine Kd.C_drewN ?_ _) | (with_reducible refine Kd.C_drew ?_)))
 (case side2 => exact bn.out)
 rintro e w' ⟨rfl, ⟨nd, rfl⟩⟩
 refine ⟨_, rfl, ?_⟩
 refine hK.out _ _ (((HB.out.cell (World.block_lt_of_cell? w _ hw436_0)).trans hw436_0)) (fun hHeld => ?_)
 clear hK K
 refine norm_ (a' := ?_) ?_ ?_
 rotate_left
 {
 show Act.put _ (some 62) _ = _
 simp only [Act.put, List.setIfInBounds_toArray, List.set_cons_zero, List.set_cons_succ, i64_w, i32_w]
 rfl
 }
 refine one_ (i := 21) (N := some 65) #[true, true, true, true, true, true, true, true, true, true, true, true, true, true, true, true, true, true, true, true, true, true, false, false, false] rfl rfl (one_of HT_.out (by kernel_rfl)) (by decide) (fun K hK => ?_)
 refine goes_ Try.func39 (by kernel_rfl) rfl #[.slice A2009 (((l0.drop ((aa) : Int).toNat).take 8).drop 4).length ((c0 - (aa).toNat) - 4)] (by rfl) rfl rfl (by (try simp only [List.map_toArray, List.map_cons, List.map_nil]); first | done | (rw [show (((l0.drop ((aa) : Int).toNat).take 8).drop 4).length = (8 - 4) from (by rw [List.length_drop, List.length_take]; have h_ : (8 : Int) ≤ ((l0.drop ((aa) : Int).toNat).length : Int) := dT; omega)] <;> rfl) | (simp only [hji1004]; rfl) | rfl | (simp only [List.length_drop, List.length_take]; rfl)) ?_
 with_reducible refine (impl_get.calls ar _ _ (((l0.drop ((aa) : Int).toNat).take 8).drop 4) aV _ ?side1 ?side2 A1029.out).mono ?_
 (case side1 => repeat (first | exact (Kd.C_below HR447.out wB) | (with_reducible refine Kd.C_alloc ?_ _) | (with_reducible refine Kd.C_drewN ?_ _) | (with_reducible refine Kd.C_drew ?_)))
 (case side2 => exact bo.out)
 rintro e w' ⟨rfl, ⟨nd, rfl⟩⟩
 refine ⟨_, rfl, ?_⟩
 refine hK.out _ _ (((HB.out.cell (World.block_lt_of_cell? w _ hw436_0)).trans hw436_0)) (fun hHeld => ?_)
 clear hK K
 refine norm_ (a' := ?_) ?_ ?_
 rotate_left
 {
 show Act.put _ (some 65) _ = _
 simp only [Act.put, List.setIfInBounds_toArray, List.set_cons_zero, List.set_cons_succ, i64_w, i32_w]
 rfl
 }
 refine pure_ (i := 22) (N := some 66) (v := ?_) (a' := ?_) #[true, true, true, true, true, true, true, true, true, true, true, true, true, true, true, true, true, true, true, true, true, true, true, false, false] rfl rfl (any_of HT_.out (by kernel_rfl)) (fun _ _ _ h => h) (Or.inl ⟨by rfl, ?_⟩) ?_ ?_
 rotate_left
 {
 intro w'
 go_simp
 with_reducible rfl
 }
 rotate_left
 {
 simp only [Act.put, List.setIfInBounds_toArray, List.set_cons_zero, List.set_cons_succ, i64_w, i32_w]
 rfl
 }
 refine one_ (i := 23) (N := none) #[true, true, true, true, true, true, true, true, true, true, true, true, true, true, true, true, true, true, true, true, true, true, true, true, false] rfl rfl (one_of HT_.out (by kernel_rfl)) (by decide) (fun K hK => ?_)
 have hs2010 : aw.cell? ⟨ac, 0, none⟩ = some (.int .i64 0) := (blk_cell ab.out 0).trans rfl
 have hfs2010 := blk_frozen ab.out 0
 have hs2011 : aw.cell? ⟨ac, 1, none⟩ = some (.int .i64 0) := (blk_cell ab.out 1).trans rfl
 have hfs2011 := blk_frozen ab.out 1
 have hs2012 : aw.cell? ⟨ac, 2, none⟩ = some (.int .i64 0) := (blk_cell ab.out 2).trans rfl
 have hfs2012 := blk_frozen ab.out 2
 have hs2013 : aw.cell? ⟨ac, 3, none⟩ = some (.int .i64 0) := (blk_cell ab.out 3).trans rfl
 have hfs2013 := blk_frozen ab.out 3
 have hs2014 : aw.cell? ⟨ac, 4, none⟩ = some (.int .i64 0) := (blk_cell ab.out 4).trans rfl
 have hfs2014 := blk_frozen ab.out 4
 have hs2015 : aw.cell? ⟨ac, 5, none⟩ = some (.int .i64 0) := (blk_cell ab.out 5).trans rfl
 have hfs2015 := blk_frozen ab.out 5
 have hs2016 : aw.cell? ⟨ac, 6, none⟩ = some (.int .i64 0) := (blk_cell ab.out 6).trans rfl
 have hfs2016 := blk_frozen ab.out 6
 refine skip_ (w1 := ?_) (by rfl) rfl ?_ ?_
 rotate_left
 {
 go_simp
 rfl
 }
 refine hK.out _ _ (((cell_far (p := ⟨ac, _, none⟩) (nB (lB hw436_0 au)) _).trans (((cell_far (p := ⟨ac, _, none⟩) (nB (lB hw436_0 au)) _).trans (((cell_far (p := ⟨ac, _, none⟩) (nB (lB hw436_0 au)) _).trans (((cell_far (p := ⟨ac, _, none⟩) (nB (lB hw436_0 au)) _).trans (((cell_far (p := ⟨ac, _, none⟩) (nB (lB hw436_0 au)) _).trans (((cell_far (p := ⟨ac, _, none⟩) (nB (lB hw436_0 au)) _).trans (((cell_far (p := ⟨ac, _, none⟩) (nB (lB hw436_0 au)) _).trans (hHeld))))))))))))))) (fun hHeld => ?_)
 clear hK K
 refine pure_ (i := 24) (N := some 3) (v := ?_) (a' := ?_) #[true, true, true, true, true, true, true, true, true, true, true, true, true, true, true, true, true, true, true, true, true, true, true, true, true] rfl rfl (any_of HT_.out (by kernel_rfl)) (fun _ _ _ h => h) (Or.inl ⟨by rfl, ?_⟩) ?_ ?_
 rotate_left
 {
 intro w'
 go_simp
 with_reducible rfl
 }
 rotate_left
 {
 simp only [Act.put, List.setIfInBounds_toArray, List.set_cons_zero, List.set_cons_succ, i64_w, i32_w]
 rfl
 }
 refine done_ (done_of HT_.out (by kernel_rfl)) ?_
 try go_wp2
 refine bodyPost_ret (results_ct rfl _ _ ac 56 #[.int .i64 (wrap64 (rd l0 9)), .int .i64 ay, .int .i64 az, .int .i64 aB, .int .i64 aD, .int .i64 aI, .int .i64 aV] (0, 0) _ rfl (by (with_reducible repeat (first | refine blk_drewN ?_ _ | refine blk_drew ?_ | refine blk_alloc ?_ _)); refine blk_put (cs := #[.int .i64 (wrap64 (rd l0 9)), .int .i64 ay, .int .i64 az, .int .i64 aB, .int .i64 aD, .int .i64 aI, .int .i64 0]) ?_ 6 _ rfl; (with_reducible repeat (first | refine blk_drewN ?_ _ | refine blk_drew ?_ | refine blk_alloc ?_ _)); refine blk_put (cs := #[.int .i64 (wrap64 (rd l0 9)), .int .i64 ay, .int .i64 az, .int .i64 aB, .int .i64 aD, .int .i64 0, .int .i64 0]) ?_ 5 _ rfl; (with_reducible repeat (first | refine blk_drewN ?_ _ | refine blk_drew ?_ | refine blk_alloc ?_ _)); refine blk_put (cs := #[.int .i64 (wrap64 (rd l0 9)), .int .i64 ay, .int .i64 az, .int .i64 aB, .int .i64 0, .int .i64 0, .int .i64 0]) ?_ 4 _ rfl; (with_reducible repeat (first | refine blk_drewN ?_ _ | refine blk_drew ?_ | refine blk_alloc ?_ _)); refine blk_put (cs := #[.int .i64 (wrap64 (rd l0 9)), .int .i64 ay, .int .i64 az, .int .i64 0, .int .i64 0, .int .i64 0, .int .i64 0]) ?_ 3 _ rfl; (with_reducible repeat (first | refine blk_drewN ?_ _ | refine blk_drew ?_ | refine blk_alloc ?_ _)); refine blk_put (cs := #[.int .i64 (wrap64 (rd l0 9)), .int .i64 ay, .int .i64 0, .int .i64 0, .int .i64 0, .int .i64 0, .int .i64 0]) ?_ 2 _ rfl; (with_reducible repeat (first | refine blk_drewN ?_ _ | refine blk_drew ?_ | refine blk_alloc ?_ _)); refine blk_put (cs := #[.int .i64 (wrap64 (rd l0 9)), .int .i64 0, .int .i64 0, .int .i64 0, .int .i64 0, .int .i64 0, .int .i64 0]) ?_ 1 _ rfl; (with_reducible repeat (first | refine blk_drewN ?_ _ | refine blk_drew ?_ | refine blk_alloc ?_ _)); refine blk_put (cs := #[.int .i64 0, .int .i64 0, .int .i64 0, .int .i64 0, .int .i64 0, .int .i64 0, .int .i64 0]) ?_ 0 _ rfl; (with_reducible repeat (first | refine blk_drewN ?_ _ | refine blk_drew ?_ | refine blk_alloc ?_ _)); exact ab.out) Try.underlying56 rfl (by kernel_rfl)) rfl ?_
 exact ⟨by first | rfl | (simp [errW_none, errW_some] <;> rfl) | (simp only [← hji1004]; first | rfl | (simp [errW_none, errW_some] <;> rfl)) | (simp [*, errW_none, errW_some] <;> rfl), wB⟩
 }
 {
 go_wp2_with (first | ((with_reducible refine gate_callee (f := 38) rfl ?_); refine gL (hargs := (by (try simp only [List.map_toArray, List.map_cons, List.map_nil]); first | done | (rw [show (l0.take ((aa) : Int).toNat).length = (aa).toNat from (by rw [List.length_take]; have h_ : ((aa) : Int) ≤ (l0.length : Int) := dT; omega)] <;> rfl) | (simp only [hji1004]; rfl) | rfl | (simp only [List.length_drop, List.length_take]; rfl))) (some 34) Try.func38 #[.slice (some ad431) (l0.take ((aa) : Int).toNat).length c0] ?_; (with_reducible refine (impl_Checksum.calls ar _ _ (l0.take ((aa) : Int).toNat) ax _ ?side1 ?side2 A1007.out).mono ?_); (case side1 => exact Kd.C_below HR433.out wB); (case side2 => exact be.out); rintro e w' ⟨rfl, ⟨nd, rfl⟩⟩; refine ⟨_, rfl, ?_⟩; (try (rw [drewN_self wc]; generalize hq_ : World.drewN wc _ = wc; replace ab := Aside0.mk (blk_at hq_ ab.out); replace HB := Aside0.mk (below_at hq_ HB.out); clear hq_; (try (obtain ⟨⟨ad, ae, af, ag, ah, ai, aj⟩, ak, al, am, an, ao, ap, aq⟩ := cells7 ab.out)))); obtain ⟨⟨bU, bV, bW, bX, bY, bZ, b0⟩, b1, b2, b3, b4, b5, b6, b7⟩ := cells7 ab.out) | ((with_reducible refine gate_store (t := 56) (p := 2) rfl ?_); (try (rw [drewN_self wc]; generalize hq_ : World.drewN wc _ = wc; replace ab := Aside0.mk (blk_at hq_ ab.out); replace HB := Aside0.mk (below_at hq_ HB.out); clear hq_; (try (obtain ⟨⟨ad, ae, af, ag, ah, ai, aj⟩, ak, al, am, an, ao, ap, aq⟩ := cells7 ab.out)))); refine storeE (put7 wc ac (.int .i64 0) (.int .i64 0) (.int .i64 0) (.int .i64 0) (.int .i64 0) (.int .i64 0) (.int .i64 0)) ?_; intro aw hw; have n0_ : Aside0 (aw.heap[ac]? = some (.cells #[.int .i64 0, .int .i64 0, .int .i64 0, .int .i64 0, .int .i64 0, .int .i64 0, .int .i64 0] 56 (0, 0))) := ⟨(by rw [hw]; exact (by apply set7; exact ab.out))⟩; have n1_ : Aside0 (Below w.heap.size w aw) := ⟨(by rw [hw]; exact wB)⟩; clear hw; clear ab; clear HB; have ab := n0_; have HB := n1_; clear n0_ n1_))
 refine bodyPost_ret (results_ct rfl _ _ ac 56 #[.int .i64 0, .int .i64 0, .int .i64 0, .int .i64 0, .int .i64 0, .int .i64 0, .int .i64 0] (0, 0) _ rfl (Bh ab) Try.underlying56 rfl (by kernel_rfl)) rfl ?_
 exact ⟨by first | rfl | (simp [errW_none, errW_some] <;> rfl) | (simp only [← hji1004]; first | rfl | (simp [errW_none, errW_some] <;> rfl)) | (simp [*, errW_none, errW_some] <;> rfl), wB⟩
 }
 }
 )
 }
 {
 rw [if_neg c4] at H
 have c4b0 : (((rd l0 0) / 16) == 4) = false := beq_eq_false_iff_ne.mpr c4
 have c4b1 : (((rd l0 0) / 16) != 4) = true := bne_iff_ne.mpr c4
 simp only [Option.some.injEq, Prod.mk.injEq] at H
 obtain ⟨rfl, rfl, rfl, rfl, rfl, rfl, rfl, rfl⟩ := H
 go_enter Try.func26, Try.ntmps26
 go_wp2_with (first | ((with_reducible refine gate_dst (N := 2) rfl ?_); (try (refine gate_guard (by rfl) ?_; dsimp only)); refine boxE 2 #[.int .i64 0, .int .i64 0, .int .i64 0, .int .i64 0, .int .i64 0, .int .i64 0, .int .i64 0] 56 ?_; intro ac hg av hbox hb; have ab := Aside0.mk (hbox); have au := Aside0.mk ((by rw [hg]; exact (below_size wB) : w.heap.size ≤ ac)); replace HB := Aside0.mk (below_step wB hb); have bf := au; clear hb hbox hg; have p431 : 0 ≤ (0 : Int) := (by omega); have q431 : 0 < (l0.length : Int) := dT; obtain ⟨ad431, e431, hx431_0⟩ := Kd.at_int HR0.out 0 p431 q431; cases e431; have qi431 : (0 < l0.length) = True := eq_true (by omega); (try rw [show ((0 : Int)).toNat = 0 from rfl] at hx431_0); (try rw [Addr.add_zero'] at hx431_0); replace hx431_0 := (HB.out.cell (World.block_lt_of_cell? w _ hx431_0)).trans hx431_0; replace p431 := eq_true p431; replace q431 := eq_true q431; obtain ⟨⟨aW, aX, aY, aZ, a0, a1, a2⟩, a3, a4, a5, a6, a7, a8, a9⟩ := cells7 ab.out) | ((with_reducible refine gate_store (t := 56) (p := 2) rfl ?_); (try (rw [drewN_self av]; generalize hq_ : World.drewN av _ = av; replace ab := Aside0.mk (blk_at hq_ ab.out); replace HB := Aside0.mk (below_at hq_ HB.out); clear hq_; (try (obtain ⟨⟨ad, ae, af, ag, ah, ai, aj⟩, ak, al, am, an, ao, ap, aq⟩ := cells7 ab.out)))); refine storeE (put7 av ac (.int .i64 0) (.int .i64 0) (.int .i64 0) (.int .i64 0) (.int .i64 0) (.int .i64 0) (.int .i64 0)) ?_; intro aK hw; have n0_ : Aside0 (aK.heap[ac]? = some (.cells #[.int .i64 0, .int .i64 0, .int .i64 0, .int .i64 0, .int .i64 0, .int .i64 0, .int .i64 0] 56 (0, 0))) := ⟨(by rw [hw]; exact (by apply set7; exact ab.out))⟩; have n1_ : Aside0 (Below w.heap.size w aK) := ⟨(by rw [hw]; exact wB)⟩; clear hw; clear ab; clear HB; have ab := n0_; have HB := n1_; clear n0_ n1_))
 refine bodyPost_ret (results_ct rfl _ _ ac 56 #[.int .i64 0, .int .i64 0, .int .i64 0, .int .i64 0, .int .i64 0, .int .i64 0, .int .i64 0] (0, 0) _ rfl (Bh ab) Try.underlying56 rfl (by kernel_rfl)) rfl ?_
 exact ⟨eR, wB⟩
 }
 }
 {
 rw [if_neg c3] at H
 exact absurd H (by simp)
 }
 }

end Go.Proofs.Ytckhadlmhbhngaa.PFnComplain
