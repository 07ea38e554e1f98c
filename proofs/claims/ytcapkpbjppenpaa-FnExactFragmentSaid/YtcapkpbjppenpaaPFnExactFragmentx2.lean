-- Written for this claim by a program of this session (wip/mkprint.py: the print, turned at a few places). Not trusted: Lean checks it.
import Derived.Test.YtcapkpbjppenpaaPFnExactFragmentx0
import Derived.Test.YtcapkpbjppenpaaPFnExactFragmentx1
namespace Go.Proofs.Ytcapkpbjppenpaa.PFnExactFragment
open Go.RowKit Go.Proofs.YtcapkpbjppenpaaW.PrintWords Go.Proofs.YtcapkpbjppenpaaW.PrintLast Go.Proofs.YtcapkpbjppenpaaW.PrintMore
attribute [local go_sem] max2_int min2_int max_two min_two max_three min_three max_four min_four   -- for this text's walks alone
set_option linter.unusedVariables false
set_option linter.unusedSimpArgs false

/-! ### spec_l05Head: function 28 -/
def spec_l05Head.f (k : Nat) (a0_0 : Int) (a0_1 : Int) (a0_2 : Bool) (a0_3 : Bool) (a0_4 : Int) (a0_5 : Int) (a0_6 : Int) (a0_7 : Int) (a0_8 : Int) (l0_9 : List Int) (l0_10 : List Int) : Option (List Int) := (spec_l03Put.f k (wrap64 ((wrap64 (20 + (l0_9.length : Int))) + (l0_10.length : Int))) 2).bind fun t140 => ((spec_l01Join.f k (([(wrap64 (64 + (wrap64 (Int.tdiv (wrap64 (20 + (l0_9.length : Int))) 4)))) % 256, (a0_0) % 256] : List Int)) t140).bind fun t143 => ((spec_l03Put.f k a0_1 2).bind fun t146 => ((spec_l01Join.f k t143 t146).bind fun t149 => ((spec_l05Flag.f a0_2 16384).bind fun t152 => ((spec_l05Flag.f a0_3 8192).bind fun t153 => ((spec_l03Put.f k (wrap64 ((wrap64 (t152 + t153)) + (wrap64 (Int.tdiv a0_4 8)))) 2).bind fun t154 => ((spec_l01Join.f k t149 t154).bind fun t157 => ((spec_l01Join.f k t157 (([(a0_5) % 256, (a0_6) % 256, 0, 0] : List Int))).bind fun t163 => ((spec_l03Put.f k a0_7 4).bind fun t166 => ((spec_l01Join.f k t163 t166).bind fun t169 => ((spec_l03Put.f k a0_8 4).bind fun t172 => ((spec_l01Join.f k t169 t172).bind fun t175 => ((spec_l01Join.f k t175 l0_9).bind fun t178 => ((spec_Checksum.f k t178).bind fun t181 => (if 10 < (t178.length : Int) then (if 11 < (t178.length : Int) then (some ((t178.set (10 : Int).toNat ((t181 / 256) % 256)).set (11 : Int).toNat ((t181) % 256))) else (none)) else (none))))))))))))))))
theorem spec_l05Head.mono : ∀ a0 a1 a2 a3 a4 a5 a6 a7 a8 a9 a10 k, LeO (spec_l05Head.f k a0 a1 a2 a3 a4 a5 a6 a7 a8 a9 a10) (spec_l05Head.f (k + 1) a0 a1 a2 a3 a4 a5 a6 a7 a8 a9 a10) := by
 intro a0 a1 a2 a3 a4 a5 a6 a7 a8 a9 a10 k
 unfold spec_l05Head.f
 repeat' first
     | (with_reducible exact spec_Checksum.mono _ _)
     | (with_reducible exact spec_l01Join.mono _ _ _)
     | (with_reducible exact spec_l03Put.mono _ _ _)
     | (with_reducible exact LeO.refl _)
     | (with_reducible exact LeO.none _)
     | (with_reducible refine LeO.ite ?_ ?_)
     | (with_reducible refine LeO.bind ?_ (fun _ => ?_))
     | exact spec_Checksum.mono _ _
     | exact spec_l01Join.mono _ _ _
     | exact spec_l03Put.mono _ _ _
     | exact LeO.none _
     | refine LeO.ite ?_ ?_
     | refine LeO.bind ?_ (fun _ => ?_)
def spec_l05Head.T5 : Bool × List (List Nat × List Nat) := (true, [([], []), ([], []), ([1], [1]), ([2], [2]), ([], []), ([4], [4]), ([5, 3], [5]), ([3, 6], [3, 6]), ([], []), ([8], [8]), ([9], [9]), ([7, 10], [7, 10]), ([11, 6], [11]), ([0, 12, 12], [0, 12]), ([13, 13, 0, 1, 2, 3, 4, 5, 6, 7, 8, 9, 10, 11, 12, 13], [0, 13])])
def spec_l05Head.B5 : List Nat := [0, 0, 2, 6, 0, 16, 62, 126, 0, 256, 768, 2046, 4094, 8191, 16383]
theorem spec_l05Head.tab5 : rtab .any (opsOf Try.f28 5) = spec_l05Head.T5 := by kernel_rfl
theorem spec_l05Head.bits5 : waitsOk spec_l05Head.T5.2 spec_l05Head.B5 = true := by kernel_rfl
def spec_l05Head.T7 : Bool × List (List Nat × List Nat) := (true, [([], []), ([], []), ([1], [1]), ([2], [2]), ([0, 3, 3], [0, 3]), ([], []), ([5], [5]), ([6, 4], [6]), ([4, 7, 7], [4, 7]), ([8, 8, 0, 1, 2, 3, 4, 5, 6, 7, 8], [0, 8])])
def spec_l05Head.B7 : List Nat := [0, 0, 2, 6, 15, 0, 32, 127, 255, 511]
theorem spec_l05Head.tab7 : rtab .any (opsOf Try.f28 7) = spec_l05Head.T7 := by kernel_rfl
theorem spec_l05Head.bits7 : waitsOk spec_l05Head.T7.2 spec_l05Head.B7 = true := by kernel_rfl
set_option maxHeartbeats 60000000 in
set_option maxRecDepth 100000 in
theorem spec_l05Head.calls (k : Nat) (a0_0 : Int) (a0_1 : Int) (a0_2 : Bool) (a0_3 : Bool) (a0_4 : Int) (a0_5 : Int) (a0_6 : Int) (a0_7 : Int) (a0_8 : Int) (A0_9 : Option Addr) (c0_9 : Nat) (l0_9 : List Int) (A0_10 : Option Addr) (c0_10 : Nat) (l0_10 : List Int) (r : List Int) (w : World) (hr0_9 : Kd.C (Kd.int .u8) w A0_9 l0_9.length l0_9) (hc0_9 : l0_9.length ≤ c0_9) (hr0_10 : Kd.C (Kd.int .u8) w A0_10 l0_10.length l0_10) (hc0_10 : l0_10.length ≤ c0_10) (h : spec_l05Head.f k a0_0 a0_1 a0_2 a0_3 a0_4 a0_5 a0_6 a0_7 a0_8 l0_9 l0_10 = some r) :
 Calls Try.prog 28 #[.agg #[.int .i64 a0_0, .int .i64 a0_1, .bool a0_2, .bool a0_3, .int .i64 a0_4, .int .i64 a0_5, .int .i64 a0_6, .int .i64 a0_7, .int .i64 a0_8, .slice A0_9 l0_9.length c0_9, .slice A0_10 l0_10.length c0_10]] w fun e w' => ∃ v0_ : Value, e = .returned (v0_) ∧ Kd.R (Kd.int .u8) 5 w' w.heap.size (fun _ => True) v0_ r ∧ Below w.heap.size w w' := by
 have hu29 := Try.underlying29
 have HR0_9 := Aside0.mk hr0_9
 have HC0_9 := Aside0.mk hc0_9
 clear hr0_9 hc0_9
 have HR0_10 := Aside0.mk hr0_10
 have HC0_10 := Aside0.mk hc0_10
 clear hr0_10 hc0_10
 have HB := Aside0.mk (Below.refl w.heap.size w)
 have H : ((spec_l03Put.f k (wrap64 ((wrap64 (20 + (l0_9.length : Int))) + (l0_10.length : Int))) 2).bind fun t140 => ((spec_l01Join.f k (([(wrap64 (64 + (wrap64 (Int.tdiv (wrap64 (20 + (l0_9.length : Int))) 4)))) % 256, (a0_0) % 256] : List Int)) t140).bind fun t143 => ((spec_l03Put.f k a0_1 2).bind fun t146 => ((spec_l01Join.f k t143 t146).bind fun t149 => ((spec_l05Flag.f a0_2 16384).bind fun t152 => ((spec_l05Flag.f a0_3 8192).bind fun t153 => ((spec_l03Put.f k (wrap64 ((wrap64 (t152 + t153)) + (wrap64 (Int.tdiv a0_4 8)))) 2).bind fun t154 => ((spec_l01Join.f k t149 t154).bind fun t157 => ((spec_l01Join.f k t157 (([(a0_5) % 256, (a0_6) % 256, 0, 0] : List Int))).bind fun t163 => ((spec_l03Put.f k a0_7 4).bind fun t166 => ((spec_l01Join.f k t163 t166).bind fun t169 => ((spec_l03Put.f k a0_8 4).bind fun t172 => ((spec_l01Join.f k t169 t172).bind fun t175 => ((spec_l01Join.f k t175 l0_9).bind fun t178 => ((spec_Checksum.f k t178).bind fun t181 => (if 10 < (t178.length : Int) then (if 11 < (t178.length : Int) then (some ((t178.set (10 : Int).toNat ((t181 / 256) % 256)).set (11 : Int).toNat ((t181) % 256))) else (none)) else (none))))))))))))))))) = some r := h
 clear h
 obtain ⟨y137, hy137⟩ : ∃ y_ : List Int, y_ = (([(wrap64 (64 + (wrap64 (Int.tdiv (wrap64 (20 + (l0_9.length : Int))) 4)))) % 256, (a0_0) % 256] : List Int)) := ⟨_, rfl⟩
 replace H : ((spec_l03Put.f k (wrap64 ((wrap64 (20 + (l0_9.length : Int))) + (l0_10.length : Int))) 2).bind fun t140 => ((spec_l01Join.f k y137 t140).bind fun t143 => ((spec_l03Put.f k a0_1 2).bind fun t146 => ((spec_l01Join.f k t143 t146).bind fun t149 => ((spec_l05Flag.f a0_2 16384).bind fun t152 => ((spec_l05Flag.f a0_3 8192).bind fun t153 => ((spec_l03Put.f k (wrap64 ((wrap64 (t152 + t153)) + (wrap64 (Int.tdiv a0_4 8)))) 2).bind fun t154 => ((spec_l01Join.f k t149 t154).bind fun t157 => ((spec_l01Join.f k t157 (([(a0_5) % 256, (a0_6) % 256, 0, 0] : List Int))).bind fun t163 => ((spec_l03Put.f k a0_7 4).bind fun t166 => ((spec_l01Join.f k t163 t166).bind fun t169 => ((spec_l03Put.f k a0_8 4).bind fun t172 => ((spec_l01Join.f k t169 t172).bind fun t175 => ((spec_l01Join.f k t175 l0_9).bind fun t178 => ((spec_Checksum.f k t178).bind fun t181 => (if 10 < (t178.length : Int) then (if 11 < (t178.length : Int) then (some ((t178.set (10 : Int).toNat ((t181 / 256) % 256)).set (11 : Int).toNat ((t181) % 256))) else (none)) else (none))))))))))))))))) = some r := by first | (rw [hy137]; with_reducible exact H) | (have H2_ := (Option.bind_some _ _).symm.trans H; rw [hy137]; with_reducible exact H2_) | (have H2_ := (Option.bind_some _ _).symm.trans H; with_reducible exact H2_) | with_reducible exact H | (rw [hy137]; exact H) | exact H
 have Ny137 := Aside0.mk hy137
 clear hy137
 replace H := Option.bind_eq_some_iff.mp H
 obtain ⟨t140, A20, H⟩ := H
 replace H : ((spec_l01Join.f k y137 t140).bind fun t143 => ((spec_l03Put.f k a0_1 2).bind fun t146 => ((spec_l01Join.f k t143 t146).bind fun t149 => ((spec_l05Flag.f a0_2 16384).bind fun t152 => ((spec_l05Flag.f a0_3 8192).bind fun t153 => ((spec_l03Put.f k (wrap64 ((wrap64 (t152 + t153)) + (wrap64 (Int.tdiv a0_4 8)))) 2).bind fun t154 => ((spec_l01Join.f k t149 t154).bind fun t157 => ((spec_l01Join.f k t157 (([(a0_5) % 256, (a0_6) % 256, 0, 0] : List Int))).bind fun t163 => ((spec_l03Put.f k a0_7 4).bind fun t166 => ((spec_l01Join.f k t163 t166).bind fun t169 => ((spec_l03Put.f k a0_8 4).bind fun t172 => ((spec_l01Join.f k t169 t172).bind fun t175 => ((spec_l01Join.f k t175 l0_9).bind fun t178 => ((spec_Checksum.f k t178).bind fun t181 => (if 10 < (t178.length : Int) then (if 11 < (t178.length : Int) then (some ((t178.set (10 : Int).toNat ((t181 / 256) % 256)).set (11 : Int).toNat ((t181) % 256))) else (none)) else (none)))))))))))))))) = some r := H
 have A2 := Aside0.mk A20
 clear A20
 replace H := Option.bind_eq_some_iff.mp H
 obtain ⟨t143, A30, H⟩ := H
 replace H : ((spec_l03Put.f k a0_1 2).bind fun t146 => ((spec_l01Join.f k t143 t146).bind fun t149 => ((spec_l05Flag.f a0_2 16384).bind fun t152 => ((spec_l05Flag.f a0_3 8192).bind fun t153 => ((spec_l03Put.f k (wrap64 ((wrap64 (t152 + t153)) + (wrap64 (Int.tdiv a0_4 8)))) 2).bind fun t154 => ((spec_l01Join.f k t149 t154).bind fun t157 => ((spec_l01Join.f k t157 (([(a0_5) % 256, (a0_6) % 256, 0, 0] : List Int))).bind fun t163 => ((spec_l03Put.f k a0_7 4).bind fun t166 => ((spec_l01Join.f k t163 t166).bind fun t169 => ((spec_l03Put.f k a0_8 4).bind fun t172 => ((spec_l01Join.f k t169 t172).bind fun t175 => ((spec_l01Join.f k t175 l0_9).bind fun t178 => ((spec_Checksum.f k t178).bind fun t181 => (if 10 < (t178.length : Int) then (if 11 < (t178.length : Int) then (some ((t178.set (10 : Int).toNat ((t181 / 256) % 256)).set (11 : Int).toNat ((t181) % 256))) else (none)) else (none))))))))))))))) = some r := H
 have A3 := Aside0.mk A30
 clear A30
 replace H := Option.bind_eq_some_iff.mp H
 obtain ⟨t146, A40, H⟩ := H
 replace H : ((spec_l01Join.f k t143 t146).bind fun t149 => ((spec_l05Flag.f a0_2 16384).bind fun t152 => ((spec_l05Flag.f a0_3 8192).bind fun t153 => ((spec_l03Put.f k (wrap64 ((wrap64 (t152 + t153)) + (wrap64 (Int.tdiv a0_4 8)))) 2).bind fun t154 => ((spec_l01Join.f k t149 t154).bind fun t157 => ((spec_l01Join.f k t157 (([(a0_5) % 256, (a0_6) % 256, 0, 0] : List Int))).bind fun t163 => ((spec_l03Put.f k a0_7 4).bind fun t166 => ((spec_l01Join.f k t163 t166).bind fun t169 => ((spec_l03Put.f k a0_8 4).bind fun t172 => ((spec_l01Join.f k t169 t172).bind fun t175 => ((spec_l01Join.f k t175 l0_9).bind fun t178 => ((spec_Checksum.f k t178).bind fun t181 => (if 10 < (t178.length : Int) then (if 11 < (t178.length : Int) then (some ((t178.set (10 : Int).toNat ((t181 / 256) % 256)).set (11 : Int).toNat ((t181) % 256))) else (none)) else (none)))))))))))))) = some r := H
 have A4 := Aside0.mk A40
 clear A40
 replace H := Option.bind_eq_some_iff.mp H
 obtain ⟨t149, A50, H⟩ := H
 replace H : ((spec_l05Flag.f a0_2 16384).bind fun t152 => ((spec_l05Flag.f a0_3 8192).bind fun t153 => ((spec_l03Put.f k (wrap64 ((wrap64 (t152 + t153)) + (wrap64 (Int.tdiv a0_4 8)))) 2).bind fun t154 => ((spec_l01Join.f k t149 t154).bind fun t157 => ((spec_l01Join.f k t157 (([(a0_5) % 256, (a0_6) % 256, 0, 0] : List Int))).bind fun t163 => ((spec_l03Put.f k a0_7 4).bind fun t166 => ((spec_l01Join.f k t163 t166).bind fun t169 => ((spec_l03Put.f k a0_8 4).bind fun t172 => ((spec_l01Join.f k t169 t172).bind fun t175 => ((spec_l01Join.f k t175 l0_9).bind fun t178 => ((spec_Checksum.f k t178).bind fun t181 => (if 10 < (t178.length : Int) then (if 11 < (t178.length : Int) then (some ((t178.set (10 : Int).toNat ((t181 / 256) % 256)).set (11 : Int).toNat ((t181) % 256))) else (none)) else (none))))))))))))) = some r := H
 have A5 := Aside0.mk A50
 clear A50
 replace H := Option.bind_eq_some_iff.mp H
 obtain ⟨t152, A60, H⟩ := H
 replace H : ((spec_l05Flag.f a0_3 8192).bind fun t153 => ((spec_l03Put.f k (wrap64 ((wrap64 (t152 + t153)) + (wrap64 (Int.tdiv a0_4 8)))) 2).bind fun t154 => ((spec_l01Join.f k t149 t154).bind fun t157 => ((spec_l01Join.f k t157 (([(a0_5) % 256, (a0_6) % 256, 0, 0] : List Int))).bind fun t163 => ((spec_l03Put.f k a0_7 4).bind fun t166 => ((spec_l01Join.f k t163 t166).bind fun t169 => ((spec_l03Put.f k a0_8 4).bind fun t172 => ((spec_l01Join.f k t169 t172).bind fun t175 => ((spec_l01Join.f k t175 l0_9).bind fun t178 => ((spec_Checksum.f k t178).bind fun t181 => (if 10 < (t178.length : Int) then (if 11 < (t178.length : Int) then (some ((t178.set (10 : Int).toNat ((t181 / 256) % 256)).set (11 : Int).toNat ((t181) % 256))) else (none)) else (none)))))))))))) = some r := H
 have A6 := Aside0.mk A60
 clear A60
 replace H := Option.bind_eq_some_iff.mp H
 obtain ⟨t153, A70, H⟩ := H
 replace H : ((spec_l03Put.f k (wrap64 ((wrap64 (t152 + t153)) + (wrap64 (Int.tdiv a0_4 8)))) 2).bind fun t154 => ((spec_l01Join.f k t149 t154).bind fun t157 => ((spec_l01Join.f k t157 (([(a0_5) % 256, (a0_6) % 256, 0, 0] : List Int))).bind fun t163 => ((spec_l03Put.f k a0_7 4).bind fun t166 => ((spec_l01Join.f k t163 t166).bind fun t169 => ((spec_l03Put.f k a0_8 4).bind fun t172 => ((spec_l01Join.f k t169 t172).bind fun t175 => ((spec_l01Join.f k t175 l0_9).bind fun t178 => ((spec_Checksum.f k t178).bind fun t181 => (if 10 < (t178.length : Int) then (if 11 < (t178.length : Int) then (some ((t178.set (10 : Int).toNat ((t181 / 256) % 256)).set (11 : Int).toNat ((t181) % 256))) else (none)) else (none))))))))))) = some r := H
 have A7 := Aside0.mk A70
 clear A70
 replace H := Option.bind_eq_some_iff.mp H
 obtain ⟨t154, A80, H⟩ := H
 replace H : ((spec_l01Join.f k t149 t154).bind fun t157 => ((spec_l01Join.f k t157 (([(a0_5) % 256, (a0_6) % 256, 0, 0] : List Int))).bind fun t163 => ((spec_l03Put.f k a0_7 4).bind fun t166 => ((spec_l01Join.f k t163 t166).bind fun t169 => ((spec_l03Put.f k a0_8 4).bind fun t172 => ((spec_l01Join.f k t169 t172).bind fun t175 => ((spec_l01Join.f k t175 l0_9).bind fun t178 => ((spec_Checksum.f k t178).bind fun t181 => (if 10 < (t178.length : Int) then (if 11 < (t178.length : Int) then (some ((t178.set (10 : Int).toNat ((t181 / 256) % 256)).set (11 : Int).toNat ((t181) % 256))) else (none)) else (none)))))))))) = some r := H
 have A8 := Aside0.mk A80
 clear A80
 replace H := Option.bind_eq_some_iff.mp H
 obtain ⟨t157, A90, H⟩ := H
 replace H : ((spec_l01Join.f k t157 (([(a0_5) % 256, (a0_6) % 256, 0, 0] : List Int))).bind fun t163 => ((spec_l03Put.f k a0_7 4).bind fun t166 => ((spec_l01Join.f k t163 t166).bind fun t169 => ((spec_l03Put.f k a0_8 4).bind fun t172 => ((spec_l01Join.f k t169 t172).bind fun t175 => ((spec_l01Join.f k t175 l0_9).bind fun t178 => ((spec_Checksum.f k t178).bind fun t181 => (if 10 < (t178.length : Int) then (if 11 < (t178.length : Int) then (some ((t178.set (10 : Int).toNat ((t181 / 256) % 256)).set (11 : Int).toNat ((t181) % 256))) else (none)) else (none))))))))) = some r := H
 have A9 := Aside0.mk A90
 clear A90
 obtain ⟨y160, hy160⟩ : ∃ y_ : List Int, y_ = (([(a0_5) % 256, (a0_6) % 256, 0, 0] : List Int)) := ⟨_, rfl⟩
 replace H : ((spec_l01Join.f k t157 y160).bind fun t163 => ((spec_l03Put.f k a0_7 4).bind fun t166 => ((spec_l01Join.f k t163 t166).bind fun t169 => ((spec_l03Put.f k a0_8 4).bind fun t172 => ((spec_l01Join.f k t169 t172).bind fun t175 => ((spec_l01Join.f k t175 l0_9).bind fun t178 => ((spec_Checksum.f k t178).bind fun t181 => (if 10 < (t178.length : Int) then (if 11 < (t178.length : Int) then (some ((t178.set (10 : Int).toNat ((t181 / 256) % 256)).set (11 : Int).toNat ((t181) % 256))) else (none)) else (none))))))))) = some r := by first | (rw [hy160]; with_reducible exact H) | (have H2_ := (Option.bind_some _ _).symm.trans H; rw [hy160]; with_reducible exact H2_) | (have H2_ := (Option.bind_some _ _).symm.trans H; with_reducible exact H2_) | with_reducible exact H | (rw [hy160]; exact H) | exact H
 have Ny160 := Aside0.mk hy160
 clear hy160
 replace H := Option.bind_eq_some_iff.mp H
 obtain ⟨t163, A100, H⟩ := H
 replace H : ((spec_l03Put.f k a0_7 4).bind fun t166 => ((spec_l01Join.f k t163 t166).bind fun t169 => ((spec_l03Put.f k a0_8 4).bind fun t172 => ((spec_l01Join.f k t169 t172).bind fun t175 => ((spec_l01Join.f k t175 l0_9).bind fun t178 => ((spec_Checksum.f k t178).bind fun t181 => (if 10 < (t178.length : Int) then (if 11 < (t178.length : Int) then (some ((t178.set (10 : Int).toNat ((t181 / 256) % 256)).set (11 : Int).toNat ((t181) % 256))) else (none)) else (none)))))))) = some r := H
 have A10 := Aside0.mk A100
 clear A100
 replace H := Option.bind_eq_some_iff.mp H
 obtain ⟨t166, A110, H⟩ := H
 replace H : ((spec_l01Join.f k t163 t166).bind fun t169 => ((spec_l03Put.f k a0_8 4).bind fun t172 => ((spec_l01Join.f k t169 t172).bind fun t175 => ((spec_l01Join.f k t175 l0_9).bind fun t178 => ((spec_Checksum.f k t178).bind fun t181 => (if 10 < (t178.length : Int) then (if 11 < (t178.length : Int) then (some ((t178.set (10 : Int).toNat ((t181 / 256) % 256)).set (11 : Int).toNat ((t181) % 256))) else (none)) else (none))))))) = some r := H
 have A11 := Aside0.mk A110
 clear A110
 replace H := Option.bind_eq_some_iff.mp H
 obtain ⟨t169, A120, H⟩ := H
 replace H : ((spec_l03Put.f k a0_8 4).bind fun t172 => ((spec_l01Join.f k t169 t172).bind fun t175 => ((spec_l01Join.f k t175 l0_9).bind fun t178 => ((spec_Checksum.f k t178).bind fun t181 => (if 10 < (t178.length : Int) then (if 11 < (t178.length : Int) then (some ((t178.set (10 : Int).toNat ((t181 / 256) % 256)).set (11 : Int).toNat ((t181) % 256))) else (none)) else (none)))))) = some r := H
 have A12 := Aside0.mk A120
 clear A120
 replace H := Option.bind_eq_some_iff.mp H
 obtain ⟨t172, A130, H⟩ := H
 replace H : ((spec_l01Join.f k t169 t172).bind fun t175 => ((spec_l01Join.f k t175 l0_9).bind fun t178 => ((spec_Checksum.f k t178).bind fun t181 => (if 10 < (t178.length : Int) then (if 11 < (t178.length : Int) then (some ((t178.set (10 : Int).toNat ((t181 / 256) % 256)).set (11 : Int).toNat ((t181) % 256))) else (none)) else (none))))) = some r := H
 have A13 := Aside0.mk A130
 clear A130
 replace H := Option.bind_eq_some_iff.mp H
 obtain ⟨t175, A140, H⟩ := H
 replace H : ((spec_l01Join.f k t175 l0_9).bind fun t178 => ((spec_Checksum.f k t178).bind fun t181 => (if 10 < (t178.length : Int) then (if 11 < (t178.length : Int) then (some ((t178.set (10 : Int).toNat ((t181 / 256) % 256)).set (11 : Int).toNat ((t181) % 256))) else (none)) else (none)))) = some r := H
 have A14 := Aside0.mk A140
 clear A140
 replace H := Option.bind_eq_some_iff.mp H
 obtain ⟨t178, A150, H⟩ := H
 replace H : ((spec_Checksum.f k t178).bind fun t181 => (if 10 < (t178.length : Int) then (if 11 < (t178.length : Int) then (some ((t178.set (10 : Int).toNat ((t181 / 256) % 256)).set (11 : Int).toNat ((t181) % 256))) else (none)) else (none))) = some r := H
 have A15 := Aside0.mk A150
 clear A150
 replace H := Option.bind_eq_some_iff.mp H
 obtain ⟨t181, A160, H⟩ := H
 replace H : (if 10 < (t178.length : Int) then (if 11 < (t178.length : Int) then (some ((t178.set (10 : Int).toNat ((t181 / 256) % 256)).set (11 : Int).toNat ((t181) % 256))) else (none)) else (none)) = some r := H
 have A16 := Aside0.mk A160
 clear A160
 by_cases c17 : 10 < (t178.length : Int)
 {
 rw [if_pos c17] at H
 have c17b0 : decide (10 < (t178.length : Int)) = true := decide_eq_true c17
 have c17b1 : decide (10 < t178.length) = true := decide_eq_true (by omega)
 clear c17
 obtain ⟨y182, hy182⟩ : ∃ y_ : List Int, y_ = (t178.set (10 : Int).toNat ((t181 / 256) % 256)) := ⟨_, rfl⟩
 replace H : (if 11 < (t178.length : Int) then (some (y182.set (11 : Int).toNat ((t181) % 256))) else (none)) = some r := by first | (rw [hy182]; with_reducible exact H) | (have H2_ := (Option.bind_some _ _).symm.trans H; rw [hy182]; with_reducible exact H2_) | (have H2_ := (Option.bind_some _ _).symm.trans H; with_reducible exact H2_) | with_reducible exact H | (rw [hy182]; exact H) | exact H
 have Ny182 := Aside0.mk hy182
 clear hy182
 by_cases c19 : 11 < (t178.length : Int)
 {
 rw [if_pos c19] at H
 have c19b0 : decide (11 < (t178.length : Int)) = true := decide_eq_true c19
 have c19b1 : decide (11 < t178.length) = true := decide_eq_true (by omega)
 clear c19
 obtain ⟨y183, hy183⟩ : ∃ y_ : List Int, y_ = (y182.set (11 : Int).toNat ((t181) % 256)) := ⟨_, rfl⟩
 replace H : (some y183) = some r := by first | (rw [hy183]; with_reducible exact H) | (have H2_ := (Option.bind_some _ _).symm.trans H; rw [hy183]; with_reducible exact H2_) | (have H2_ := (Option.bind_some _ _).symm.trans H; with_reducible exact H2_) | with_reducible exact H | (rw [hy183]; exact H) | exact H
 have Ny183 := Aside0.mk hy183
 clear hy183
 obtain rfl := Option.some.inj H
 go_enter Try.func28, Try.ntmps28
 try go_wp2_with (first | ((with_reducible refine gate_dst (N := 1) rfl ?_); refine box_event ?hg (N := 1) ?hd (cs := #[.int .i64 a0_0, .int .i64 a0_1, .bool a0_2, .bool a0_3, .int .i64 a0_4, .int .i64 a0_5, .int .i64 a0_6, .int .i64 a0_7, .int .i64 a0_8, .slice A0_9 l0_9.length c0_9, .slice A0_10 l0_10.length c0_10]) (t := 29) ?hr ?_; (case hd => rfl); (case hg => rfl); (case hr => first | (go_simp; done) | (go_simp; rfl)); intro gb136 hg w1001 hbox hb; have n0_ := Aside0.mk (below_step wB hb); have n1_ := Aside0.mk (hbox); have n2_ := Aside0.mk ((by rw [hg]; exact (below_size wB) : w.heap.size ≤ gb136)); have n3_ := Aside0.mk ((by rw [hg]; exact (below_size wB) : w.heap.size ≤ gb136)); clear HB; have HB := n0_; have BK136 := n1_; have GW136 := n2_; have GE136 := n3_; clear n0_ n1_ n2_ n3_; clear hb hbox hg; obtain ⟨⟨hcz1002_0, hcz1002_1, hcz1002_2, hcz1002_3, hcz1002_4, hcz1002_5, hcz1002_6, hcz1002_7, hcz1002_8, hcz1002_9, hcz1002_10⟩, hfz1002_0, hfz1002_1, hfz1002_2, hfz1002_3, hfz1002_4, hfz1002_5, hfz1002_6, hfz1002_7, hfz1002_8, hfz1002_9, hfz1002_10⟩ := cells11 BK136.out) | ((with_reducible refine gate_dst (N := 17) rfl ?_); refine Kd.R_lit (Kd.int .u8) _ 5 ?hg (N := 17) ?hd (xs := ([(wrap64 (64 + (wrap64 (Int.tdiv (wrap64 (20 + (l0_9.length : Int))) 4)))) % 256, (a0_0) % 256] : List Int)) (inner := [.int .u8 ((wrap64 (64 + (wrap64 (Int.tdiv (wrap64 (20 + (l0_9.length : Int))) 4)))) % 256), .int .u8 ((a0_0) % 256)]) (ok := fun _ => True) (okp := fun _ => True) ?hr ?hp (fun _ hk => hk) trivial (Below.refl _ _) (Nat.le_refl _) (by simp) ?_; (case hd => rfl); (case hg => rfl); (case hr => first | (go_simp; done) | (go_simp; rfl)); (case hp => exact (Reps.one (show Kd.M (Kd.int .u8) _ _ _ ((wrap64 (64 + (wrap64 (Int.tdiv (wrap64 (20 + (l0_9.length : Int))) 4)))) % 256) [.int .u8 ((wrap64 (64 + (wrap64 (Int.tdiv (wrap64 (20 + (l0_9.length : Int))) 4)))) % 256)] from rfl) (Reps.one (show Kd.M (Kd.int .u8) _ _ _ ((a0_0) % 256) [.int .u8 ((a0_0) % 256)] from rfl) (Reps.none _ _)))); intro v138 w1003 ho1004 hb hg_ hnew_; clear hg_ hnew_; (first | rw [← Ny137.out] at ho1004 | (simp only [Int.reduceToNat] at ho1004; rw [← Ny137.out] at ho1004)); have n0_ := Aside0.mk (Kd.R_lower ho1004 (below_size wB)); have n1_ := Aside0.mk (blk_below (Bh BK136) hb); have n2_ := Aside0.mk (below_step wB hb); clear BK136; clear HB; have HO139 := n0_; have BK136 := n1_; have HB := n2_; clear n0_ n1_ n2_; clear hb ho1004; obtain ⟨⟨hcz1005_0, hcz1005_1, hcz1005_2, hcz1005_3, hcz1005_4, hcz1005_5, hcz1005_6, hcz1005_7, hcz1005_8, hcz1005_9, hcz1005_10⟩, hfz1005_0, hfz1005_1, hfz1005_2, hfz1005_3, hfz1005_4, hfz1005_5, hfz1005_6, hfz1005_7, hfz1005_8, hfz1005_9, hfz1005_10⟩ := cells11 BK136.out) | ((with_reducible refine gate_callee (f := 32) rfl ?_); refine goesL_ (some 24) rfl rfl Try.func32 (by kernel_rfl) rfl #[.int .i64 (wrap64 ((wrap64 (20 + (l0_9.length : Int))) + (l0_10.length : Int))), .int .i64 2] rfl wT ?_; (with_reducible refine (spec_l03Put.calls k (wrap64 ((wrap64 (20 + (l0_9.length : Int))) + (l0_10.length : Int))) 2 t140 _ A2.out).mono ?_); rintro e w1006 ⟨v141, rfl, ho0, hb⟩; refine ⟨_, rfl, ?_⟩; have n0_ := Aside0.mk (Kd.R_elder' (Rh HO139) (Kd.R_base ho0) hb); have n1_ := Aside0.mk (Kd.R_lower (Kd.R_new' ho0 (Kd.R_lt (Rh HO139))) (below_size wB)); have n2_ := Aside0.mk (blk_below (Bh BK136) hb); have n3_ := Aside0.mk (below_step wB hb); clear HO139; clear BK136; clear HB; have HO139 := n0_; have HO142 := n1_; have BK136 := n2_; have HB := n3_; clear n0_ n1_ n2_ n3_; (try clear hb); (try clear hb2); (try clear hk); (try clear hi); (try clear ho0); obtain ⟨Ao1007, co1007, eo1007⟩ := Kd.R_slice HO139.out; subst eo1007; obtain ⟨Ao1008, co1008, eo1008⟩ := Kd.R_slice HO142.out; subst eo1008) | ((with_reducible refine gate_callee (f := 27) rfl ?_); refine goesL_ (some 25) rfl rfl Try.func27 (by kernel_rfl) rfl #[.slice Ao1007 y137.length co1007, .slice Ao1008 t140.length co1008] rfl wT ?_; (with_reducible refine (spec_l01Join.calls k _ _ y137 _ _ t140 t143 _ ?side1 ?side2 ?side3 ?side4 A3.out).mono ?_); (case side1 => exact Ch HO139); (case side2 => exact (Kd.R_reads' HO139.out).2.1); (case side3 => exact Ch HO142); (case side4 => exact (Kd.R_reads' HO142.out).2.1); rintro e w1009 ⟨v144, rfl, ho0, hb⟩; refine ⟨_, rfl, ?_⟩; have n0_ := Aside0.mk (Kd.R_elder' (Rh HO139) (Kd.R_base ho0) hb); have n1_ := Aside0.mk (Kd.R_elder' (Rh HO142) (Kd.R_base ho0) hb); have n2_ := Aside0.mk (Kd.R_lower (Kd.R_new' (Kd.R_new' ho0 (Kd.R_lt (Rh HO139))) (Kd.R_lt (Rh HO142))) (below_size wB)); have n3_ := Aside0.mk (blk_below (Bh BK136) hb); have n4_ := Aside0.mk (below_step wB hb); clear HO139; clear HO142; clear BK136; clear HB; have HO139 := n0_; have HO142 := n1_; have HO145 := n2_; have BK136 := n3_; have HB := n4_; clear n0_ n1_ n2_ n3_ n4_; (try clear hb); (try clear hb2); (try clear hk); (try clear hi); (try clear ho0); obtain ⟨⟨hcz1010_0, hcz1010_1, hcz1010_2, hcz1010_3, hcz1010_4, hcz1010_5, hcz1010_6, hcz1010_7, hcz1010_8, hcz1010_9, hcz1010_10⟩, hfz1010_0, hfz1010_1, hfz1010_2, hfz1010_3, hfz1010_4, hfz1010_5, hfz1010_6, hfz1010_7, hfz1010_8, hfz1010_9, hfz1010_10⟩ := cells11 BK136.out) | ((with_reducible refine gate_callee (f := 32) rfl ?_); refine goesL_ (some 29) rfl rfl Try.func32 (by kernel_rfl) rfl #[.int .i64 a0_1, .int .i64 2] rfl wT ?_; (with_reducible refine (spec_l03Put.calls k a0_1 2 t146 _ A4.out).mono ?_); rintro e w1011 ⟨v147, rfl, ho0, hb⟩; refine ⟨_, rfl, ?_⟩; have n0_ := Aside0.mk (Kd.R_elder' (Rh HO139) (Kd.R_base ho0) hb); have n1_ := Aside0.mk (Kd.R_elder' (Rh HO142) (Kd.R_base ho0) hb); have n2_ := Aside0.mk (Kd.R_elder' (Rh HO145) (Kd.R_base ho0) hb); have n3_ := Aside0.mk (Kd.R_lower (Kd.R_new' (Kd.R_new' (Kd.R_new' ho0 (Kd.R_lt (Rh HO139))) (Kd.R_lt (Rh HO142))) (Kd.R_lt (Rh HO145))) (below_size wB)); have n4_ := Aside0.mk (blk_below (Bh BK136) hb); have n5_ := Aside0.mk (below_step wB hb); clear HO139; clear HO142; clear HO145; clear BK136; clear HB; have HO139 := n0_; have HO142 := n1_; have HO145 := n2_; have HO148 := n3_; have BK136 := n4_; have HB := n5_; clear n0_ n1_ n2_ n3_ n4_ n5_; (try clear hb); (try clear hb2); (try clear hk); (try clear hi); (try clear ho0); obtain ⟨Ao1012, co1012, eo1012⟩ := Kd.R_slice HO145.out; subst eo1012; obtain ⟨Ao1013, co1013, eo1013⟩ := Kd.R_slice HO148.out; subst eo1013) | ((with_reducible refine gate_callee (f := 27) rfl ?_); refine goesL_ (some 30) rfl rfl Try.func27 (by kernel_rfl) rfl #[.slice Ao1012 t143.length co1012, .slice Ao1013 t146.length co1013] rfl wT ?_; (with_reducible refine (spec_l01Join.calls k _ _ t143 _ _ t146 t149 _ ?side1 ?side2 ?side3 ?side4 A5.out).mono ?_); (case side1 => exact Ch HO145); (case side2 => exact (Kd.R_reads' HO145.out).2.1); (case side3 => exact Ch HO148); (case side4 => exact (Kd.R_reads' HO148.out).2.1); rintro e w1014 ⟨v150, rfl, ho0, hb⟩; refine ⟨_, rfl, ?_⟩; have n0_ := Aside0.mk (Kd.R_elder' (Rh HO139) (Kd.R_base ho0) hb); have n1_ := Aside0.mk (Kd.R_elder' (Rh HO142) (Kd.R_base ho0) hb); have n2_ := Aside0.mk (Kd.R_elder' (Rh HO145) (Kd.R_base ho0) hb); have n3_ := Aside0.mk (Kd.R_elder' (Rh HO148) (Kd.R_base ho0) hb); have n4_ := Aside0.mk (Kd.R_lower (Kd.R_new' (Kd.R_new' (Kd.R_new' (Kd.R_new' ho0 (Kd.R_lt (Rh HO139))) (Kd.R_lt (Rh HO142))) (Kd.R_lt (Rh HO145))) (Kd.R_lt (Rh HO148))) (below_size wB)); have n5_ := Aside0.mk (blk_below (Bh BK136) hb); have n6_ := Aside0.mk (below_step wB hb); clear HO139; clear HO142; clear HO145; clear HO148; clear BK136; clear HB; have HO139 := n0_; have HO142 := n1_; have HO145 := n2_; have HO148 := n3_; have HO151 := n4_; have BK136 := n5_; have HB := n6_; clear n0_ n1_ n2_ n3_ n4_ n5_ n6_; (try clear hb); (try clear hb2); (try clear hk); (try clear hi); (try clear ho0)))
 have n0_ := Aside0.mk (Kd.R_drew HO139.out)
 have n1_ := Aside0.mk (Kd.R_drew HO142.out)
 have n2_ := Aside0.mk (Kd.R_drew HO145.out)
 have n3_ := Aside0.mk (Kd.R_drew HO148.out)
 have n4_ := Aside0.mk (Kd.R_drew HO151.out)
 have n5_ := Aside0.mk (blk_drew BK136.out)
 have n6_ := Aside0.mk (below_drew1 HB.out)
 clear HO139
 clear HO142
 clear HO145
 clear HO148
 clear HO151
 clear BK136
 clear HB
 have HO139 := n0_
 have HO142 := n1_
 have HO145 := n2_
 have HO148 := n3_
 have HO151 := n4_
 have BK136 := n5_
 have HB := n6_
 clear n0_ n1_ n2_ n3_ n4_ n5_ n6_
 refine start_ (n := 15) (S := fun w' => w'.cell? ⟨gb136, 0, none⟩ = some (.int .i64 a0_0) ∧ w'.cell? ⟨gb136, 1, none⟩ = some (.int .i64 a0_1) ∧ w'.cell? ⟨gb136, 2, none⟩ = some (.bool a0_2) ∧ w'.cell? ⟨gb136, 3, none⟩ = some (.bool a0_3) ∧ w'.cell? ⟨gb136, 4, none⟩ = some (.int .i64 a0_4) ∧ w'.cell? ⟨gb136, 5, none⟩ = some (.int .i64 a0_5) ∧ w'.cell? ⟨gb136, 6, none⟩ = some (.int .i64 a0_6) ∧ w'.cell? ⟨gb136, 7, none⟩ = some (.int .i64 a0_7) ∧ w'.cell? ⟨gb136, 8, none⟩ = some (.int .i64 a0_8) ∧ w'.cell? ⟨gb136, 9, none⟩ = some (.slice A0_9 l0_9.length c0_9) ∧ w'.cell? ⟨gb136, 10, none⟩ = some (.slice A0_10 l0_10.length c0_10)) (ds := []) #[false, false, false, false, false, false, false, false, false, false, false, false, false, false, false] (by kernel_rfl) rfl rfl ⟨(blk_cell BK136.out 0).trans rfl, (blk_cell BK136.out 1).trans rfl, (blk_cell BK136.out 2).trans rfl, (blk_cell BK136.out 3).trans rfl, (blk_cell BK136.out 4).trans rfl, (blk_cell BK136.out 5).trans rfl, (blk_cell BK136.out 6).trans rfl, (blk_cell BK136.out 7).trans rfl, (blk_cell BK136.out 8).trans rfl, (blk_cell BK136.out 9).trans rfl, (blk_cell BK136.out 10).trans rfl⟩ (fun hHeld => ?_); refine with_tabW spec_l05Head.tab5 spec_l05Head.bits5 (fun HT_ HW_ => ?_)
 generalize w1014.drew = w1015 at HO139 HO142 HO145 HO148 HO151 BK136 HB hHeld ⊢
 refine pure_ (i := 0) (N := some 31) (v := ?_) (a' := ?_) #[true, false, false, false, false, false, false, false, false, false, false, false, false, false, false] rfl rfl (any_of HT_.out (by kernel_rfl)) (fun _ _ _ h => h) (Or.inl ⟨by rfl, ?_⟩) ?_ ?_
 rotate_left
 {
 intro w'
 go_simp
 with_reducible rfl
 }
 rotate_left
 {
 simp only [Act.put, List.setIfInBounds_toArray, List.set_cons_zero, List.set_cons_succ, i64_w, i32_w]
 rfl
 }
 refine pure_ (i := 1) (N := some 32) (v := ?_) (a' := ?_) #[true, true, false, false, false, false, false, false, false, false, false, false, false, false, false] rfl rfl (any_of HT_.out (by kernel_rfl)) (fun _ _ _ h => h) (Or.inl ⟨by rfl, ?_⟩) ?_ ?_
 rotate_left
 {
 intro w'
 go_simp
 with_reducible rfl
 }
 rotate_left
 {
 simp only [Act.put, List.setIfInBounds_toArray, List.set_cons_zero, List.set_cons_succ, i64_w, i32_w]
 rfl
 }
 refine pure_ (i := 4) (N := some 35) (v := ?_) (a' := ?_) #[true, true, false, false, true, false, false, false, false, false, false, false, false, false, false] rfl rfl (any_of HT_.out (by kernel_rfl)) (fun _ _ _ h => h) (Or.inl ⟨by rfl, ?_⟩) ?_ ?_
 rotate_left
 {
 intro w'
 go_simp
 with_reducible rfl
 }
 rotate_left
 {
 simp only [Act.put, List.setIfInBounds_toArray, List.set_cons_zero, List.set_cons_succ, i64_w, i32_w]
 rfl
 }
 refine pure_ (i := 8) (N := some 39) (v := ?_) (a' := ?_) #[true, true, false, false, true, false, false, false, true, false, false, false, false, false, false] rfl rfl (any_of HT_.out (by kernel_rfl)) (fun _ _ _ h => h) (Or.inl ⟨by rfl, ?_⟩) ?_ ?_
 rotate_left
 {
 intro w'
 go_simp
 with_reducible rfl
 }
 rotate_left
 {
 simp only [Act.put, List.setIfInBounds_toArray, List.set_cons_zero, List.set_cons_succ, i64_w, i32_w]
 rfl
 }
 refine take_ (i := 2) (N := some 33) (v := ?_) (a' := ?_) #[true, true, true, false, true, false, false, false, true, false, false, false, false, false, false] rfl rfl (take_ofW HT_.out HW_.out (by kernel_rfl)) (fun _ _ _ h => h) (Or.inl ⟨by rfl, ?_⟩) hHeld ?_ ?_
 rotate_left
 {
 rintro w' ⟨s0, s1, s2, s3, s4, s5, s6, s7, s8, s9, s10⟩
 go_simp
 with_reducible rfl
 }
 rotate_left
 {
 simp only [Act.put, List.setIfInBounds_toArray, List.set_cons_zero, List.set_cons_succ, i64_w, i32_w]
 rfl
 }
 refine take_ (i := 5) (N := some 36) (v := ?_) (a' := ?_) #[true, true, true, false, true, true, false, false, true, false, false, false, false, false, false] rfl rfl (take_ofW HT_.out HW_.out (by kernel_rfl)) (fun _ _ _ h => h) (Or.inl ⟨by rfl, ?_⟩) hHeld ?_ ?_
 rotate_left
 {
 rintro w' ⟨s0, s1, s2, s3, s4, s5, s6, s7, s8, s9, s10⟩
 go_simp
 with_reducible rfl
 }
 rotate_left
 {
 simp only [Act.put, List.setIfInBounds_toArray, List.set_cons_zero, List.set_cons_succ, i64_w, i32_w]
 rfl
 }
 refine take_ (i := 9) (N := some 40) (v := ?_) (a' := ?_) #[true, true, true, false, true, true, false, false, true, true, false, false, false, false, false] rfl rfl (take_ofW HT_.out HW_.out (by kernel_rfl)) (fun _ _ _ h => h) (Or.inl ⟨by rfl, ?_⟩) hHeld ?_ ?_
 rotate_left
 {
 rintro w' ⟨s0, s1, s2, s3, s4, s5, s6, s7, s8, s9, s10⟩
 go_simp
 with_reducible rfl
 }
 rotate_left
 {
 simp only [Act.put, List.setIfInBounds_toArray, List.set_cons_zero, List.set_cons_succ, i64_w, i32_w]
 rfl
 }
 refine pure_ (i := 10) (N := some 41) (v := ?_) (a' := ?_) #[true, true, true, false, true, true, false, false, true, true, true, false, false, false, false] rfl rfl (any_of HT_.out (by kernel_rfl)) (fun _ _ _ h => h) (Or.inl ⟨by rfl, ?_⟩) ?_ ?_
 rotate_left
 {
 intro w'
 go_simp
 with_reducible rfl
 }
 rotate_left
 {
 simp only [Act.put, List.setIfInBounds_toArray, List.set_cons_zero, List.set_cons_succ, i64_w, i32_w]
 rfl
 }
 refine one_ (i := 3) (N := some 34) #[true, true, true, true, true, true, false, false, true, true, true, false, false, false, false] rfl rfl (one_of HT_.out (by kernel_rfl)) (by decide) (fun K hK => ?_)
 refine goes_ Try.func33 (by kernel_rfl) rfl #[.bool a0_2, .int .i64 16384] (by rfl) rfl rfl wT ?_
 with_reducible refine (spec_l05Flag.calls a0_2 16384 t152 _ A6.out).mono ?_
 rintro e w' ⟨rfl, ⟨nd, rfl⟩⟩
 refine ⟨_, rfl, ?_⟩
 refine hK.out _ _ ⟨(blk_cell BK136.out 0).trans rfl, (blk_cell BK136.out 1).trans rfl, (blk_cell BK136.out 2).trans rfl, (blk_cell BK136.out 3).trans rfl, (blk_cell BK136.out 4).trans rfl, (blk_cell BK136.out 5).trans rfl, (blk_cell BK136.out 6).trans rfl, (blk_cell BK136.out 7).trans rfl, (blk_cell BK136.out 8).trans rfl, (blk_cell BK136.out 9).trans rfl, (blk_cell BK136.out 10).trans rfl⟩ (fun hHeld => ?_)
 clear hK K
 refine norm_ (a' := ?_) ?_ ?_
 rotate_left
 {
 show Act.put _ (some 34) _ = _
 simp only [Act.put, List.setIfInBounds_toArray, List.set_cons_zero, List.set_cons_succ, i64_w, i32_w]
 rfl
 }
 refine one_ (i := 6) (N := some 37) #[true, true, true, true, true, true, true, false, true, true, true, false, false, false, false] rfl rfl (one_of HT_.out (by kernel_rfl)) (by decide) (fun K hK => ?_)
 refine goes_ Try.func33 (by kernel_rfl) rfl #[.bool a0_3, .int .i64 8192] (by rfl) rfl rfl wT ?_
 with_reducible refine (spec_l05Flag.calls a0_3 8192 t153 _ A7.out).mono ?_
 rintro e w' ⟨rfl, ⟨nd, rfl⟩⟩
 refine ⟨_, rfl, ?_⟩
 refine hK.out _ _ ⟨(blk_cell BK136.out 0).trans rfl, (blk_cell BK136.out 1).trans rfl, (blk_cell BK136.out 2).trans rfl, (blk_cell BK136.out 3).trans rfl, (blk_cell BK136.out 4).trans rfl, (blk_cell BK136.out 5).trans rfl, (blk_cell BK136.out 6).trans rfl, (blk_cell BK136.out 7).trans rfl, (blk_cell BK136.out 8).trans rfl, (blk_cell BK136.out 9).trans rfl, (blk_cell BK136.out 10).trans rfl⟩ (fun hHeld => ?_)
 clear hK K
 refine norm_ (a' := ?_) ?_ ?_
 rotate_left
 {
 show Act.put _ (some 37) _ = _
 simp only [Act.put, List.setIfInBounds_toArray, List.set_cons_zero, List.set_cons_succ, i64_w, i32_w]
 rfl
 }
 refine pure_ (i := 7) (N := some 38) (v := ?_) (a' := ?_) #[true, true, true, true, true, true, true, true, true, true, true, false, false, false, false] rfl rfl (any_of HT_.out (by kernel_rfl)) (fun _ _ _ h => h) (Or.inl ⟨by rfl, ?_⟩) ?_ ?_
 rotate_left
 {
 intro w'
 go_simp
 with_reducible rfl
 }
 rotate_left
 {
 simp only [Act.put, List.setIfInBounds_toArray, List.set_cons_zero, List.set_cons_succ, i64_w, i32_w]
 rfl
 }
 refine pure_ (i := 11) (N := some 42) (v := ?_) (a' := ?_) #[true, true, true, true, true, true, true, true, true, true, true, true, false, false, false] rfl rfl (any_of HT_.out (by kernel_rfl)) (fun _ _ _ h => h) (Or.inl ⟨by rfl, ?_⟩) ?_ ?_
 rotate_left
 {
 intro w'
 go_simp
 with_reducible rfl
 }
 rotate_left
 {
 simp only [Act.put, List.setIfInBounds_toArray, List.set_cons_zero, List.set_cons_succ, i64_w, i32_w]
 rfl
 }
 refine one_ (i := 12) (N := some 43) #[true, true, true, true, true, true, true, true, true, true, true, true, true, false, false] rfl rfl (one_of HT_.out (by kernel_rfl)) (by decide) (fun K hK => ?_)
 refine goes_ Try.func32 (by kernel_rfl) rfl #[.int .i64 (wrap64 ((wrap64 (t152 + t153)) + (wrap64 (Int.tdiv a0_4 8)))), .int .i64 2] (by rfl) rfl rfl wT ?_
 with_reducible refine (spec_l03Put.calls k (wrap64 ((wrap64 (t152 + t153)) + (wrap64 (Int.tdiv a0_4 8)))) 2 t154 _ A8.out).mono ?_
 rintro e w1016 ⟨v155, rfl, ho0, hb⟩
 refine ⟨_, rfl, ?_⟩
 have n0_ := Aside0.mk (Kd.R_elder' (Rh HO139) (Kd.R_base ho0) hb)
 have n1_ := Aside0.mk (Kd.R_elder' (Rh HO142) (Kd.R_base ho0) hb)
 have n2_ := Aside0.mk (Kd.R_elder' (Rh HO145) (Kd.R_base ho0) hb)
 have n3_ := Aside0.mk (Kd.R_elder' (Rh HO148) (Kd.R_base ho0) hb)
 have n4_ := Aside0.mk (Kd.R_elder' (Rh HO151) (Kd.R_base ho0) hb)
 have n5_ := Aside0.mk (Kd.R_lower (Kd.R_new' (Kd.R_new' (Kd.R_new' (Kd.R_new' (Kd.R_new' ho0 (Kd.R_lt (Rh HO139))) (Kd.R_lt (Rh HO142))) (Kd.R_lt (Rh HO145))) (Kd.R_lt (Rh HO148))) (Kd.R_lt (Rh HO151))) (below_size wB))
 have n6_ := Aside0.mk (blk_below (Bh BK136) hb)
 have n7_ := Aside0.mk (below_step wB hb)
 clear HO139
 clear HO142
 clear HO145
 clear HO148
 clear HO151
 clear BK136
 clear HB
 have HO139 := n0_
 have HO142 := n1_
 have HO145 := n2_
 have HO148 := n3_
 have HO151 := n4_
 have HO156 := n5_
 have BK136 := n6_
 have HB := n7_
 clear n0_ n1_ n2_ n3_ n4_ n5_ n6_ n7_
 (try clear hb)
 (try clear hb2)
 (try clear hk)
 (try clear hi)
 (try clear ho0)
 obtain ⟨Ao1017, co1017, eo1017⟩ := Kd.R_slice HO151.out
 (first | subst eo1017 | (injection eo1017 with f1_ f2_ f3_; have f4_ := f1_.symm; have f5_ := f3_.symm; clear f1_ f2_ f3_; subst f4_; subst f5_))
 obtain ⟨Ao1018, co1018, eo1018⟩ := Kd.R_slice HO156.out
 (first | subst eo1018 | (injection eo1018 with f1_ f2_ f3_; have f4_ := f1_.symm; have f5_ := f3_.symm; clear f1_ f2_ f3_; subst f4_; subst f5_))
 refine hK.out _ _ ⟨(blk_cell BK136.out 0).trans rfl, (blk_cell BK136.out 1).trans rfl, (blk_cell BK136.out 2).trans rfl, (blk_cell BK136.out 3).trans rfl, (blk_cell BK136.out 4).trans rfl, (blk_cell BK136.out 5).trans rfl, (blk_cell BK136.out 6).trans rfl, (blk_cell BK136.out 7).trans rfl, (blk_cell BK136.out 8).trans rfl, (blk_cell BK136.out 9).trans rfl, (blk_cell BK136.out 10).trans rfl⟩ (fun hHeld => ?_)
 clear hK K
 refine norm_ (a' := ?_) ?_ ?_
 rotate_left
 {
 show Act.put _ (some 43) _ = _
 simp only [Act.put, List.setIfInBounds_toArray, List.set_cons_zero, List.set_cons_succ, i64_w, i32_w]
 rfl
 }
 refine one_ (i := 13) (N := some 44) #[true, true, true, true, true, true, true, true, true, true, true, true, true, true, false] rfl rfl (one_of HT_.out (by kernel_rfl)) (by decide) (fun K hK => ?_)
 refine goes_ Try.func27 (by kernel_rfl) rfl #[.slice Ao1017 t149.length co1017, .slice Ao1018 t154.length co1018] (by rfl) rfl rfl wT ?_
 with_reducible refine (spec_l01Join.calls k _ _ t149 _ _ t154 t157 _ ?side1 ?side2 ?side3 ?side4 A9.out).mono ?_
 (case side1 => exact Ch HO151)
 (case side2 => exact (Kd.R_reads' HO151.out).2.1)
 (case side3 => exact Ch HO156)
 (case side4 => exact (Kd.R_reads' HO156.out).2.1)
 rintro e w1019 ⟨v158, rfl, ho0, hb⟩
 refine ⟨_, rfl, ?_⟩
 have n0_ := Aside0.mk (Kd.R_elder' (Rh HO139) (Kd.R_base ho0) hb)
 have n1_ := Aside0.mk (Kd.R_elder' (Rh HO142) (Kd.R_base ho0) hb)
 have n2_ := Aside0.mk (Kd.R_elder' (Rh HO145) (Kd.R_base ho0) hb)
 have n3_ := Aside0.mk (Kd.R_elder' (Rh HO148) (Kd.R_base ho0) hb)
 have n4_ := Aside0.mk (Kd.R_elder' (Rh HO151) (Kd.R_base ho0) hb)
 have n5_ := Aside0.mk (Kd.R_elder' (Rh HO156) (Kd.R_base ho0) hb)
 have n6_ := Aside0.mk (Kd.R_lower (Kd.R_new' (Kd.R_new' (Kd.R_new' (Kd.R_new' (Kd.R_new' (Kd.R_new' ho0 (Kd.R_lt (Rh HO139))) (Kd.R_lt (Rh HO142))) (Kd.R_lt (Rh HO145))) (Kd.R_lt (Rh HO148))) (Kd.R_lt (Rh HO151))) (Kd.R_lt (Rh HO156))) (below_size wB))
 have n7_ := Aside0.mk (blk_below (Bh BK136) hb)
 have n8_ := Aside0.mk (below_step wB hb)
 clear HO139
 clear HO142
 clear HO145
 clear HO148
 clear HO151
 clear HO156
 clear BK136
 clear HB
 have HO139 := n0_
 have HO142 := n1_
 have HO145 := n2_
 have HO148 := n3_
 have HO151 := n4_
 have HO156 := n5_
 have HO159 := n6_
 have BK136 := n7_
 have HB := n8_
 clear n0_ n1_ n2_ n3_ n4_ n5_ n6_ n7_ n8_
 (try clear hb)
 (try clear hb2)
 (try clear hk)
 (try clear hi)
 (try clear ho0)
 refine hK.out _ _ ⟨(blk_cell BK136.out 0).trans rfl, (blk_cell BK136.out 1).trans rfl, (blk_cell BK136.out 2).trans rfl, (blk_cell BK136.out 3).trans rfl, (blk_cell BK136.out 4).trans rfl, (blk_cell BK136.out 5).trans rfl, (blk_cell BK136.out 6).trans rfl, (blk_cell BK136.out 7).trans rfl, (blk_cell BK136.out 8).trans rfl, (blk_cell BK136.out 9).trans rfl, (blk_cell BK136.out 10).trans rfl⟩ (fun hHeld => ?_)
 clear hK K
 refine norm_ (a' := ?_) ?_ ?_
 rotate_left
 {
 show Act.put _ (some 44) _ = _
 simp only [Act.put, List.setIfInBounds_toArray, List.set_cons_zero, List.set_cons_succ, i64_w, i32_w]
 rfl
 }
 refine pure_ (i := 14) (N := some 4) (v := ?_) (a' := ?_) #[true, true, true, true, true, true, true, true, true, true, true, true, true, true, true] rfl rfl (any_of HT_.out (by kernel_rfl)) (fun _ _ _ h => h) (Or.inl ⟨by rfl, ?_⟩) ?_ ?_
 rotate_left
 {
 intro w'
 go_simp
 with_reducible rfl
 }
 rotate_left
 {
 simp only [Act.put, List.setIfInBounds_toArray, List.set_cons_zero, List.set_cons_succ, i64_w, i32_w]
 rfl
 }
 refine done_ (done_of HT_.out (by kernel_rfl)) ?_
 obtain ⟨⟨hcz1020_0, hcz1020_1, hcz1020_2, hcz1020_3, hcz1020_4, hcz1020_5, hcz1020_6, hcz1020_7, hcz1020_8, hcz1020_9, hcz1020_10⟩, hfz1020_0, hfz1020_1, hfz1020_2, hfz1020_3, hfz1020_4, hfz1020_5, hfz1020_6, hfz1020_7, hfz1020_8, hfz1020_9, hfz1020_10⟩ := cells11 BK136.out
 try go_wp2_with (first | ((with_reducible refine gate_dst (N := 52) rfl ?_); refine Kd.R_lit (Kd.int .u8) _ 5 ?hg (N := 52) ?hd (xs := ([(a0_5) % 256, (a0_6) % 256, 0, 0] : List Int)) (inner := [.int .u8 ((a0_5) % 256), .int .u8 ((a0_6) % 256), .int .u8 0, .int .u8 0]) (ok := fun _ => True) (okp := fun _ => True) ?hr ?hp (fun _ hk => hk) trivial (Below.refl _ _) (Nat.le_refl _) (by simp) ?_; (case hd => rfl); (case hg => rfl); (case hr => first | (go_simp; done) | (go_simp; rfl)); (case hp => exact (Reps.one (show Kd.M (Kd.int .u8) _ _ _ ((a0_5) % 256) [.int .u8 ((a0_5) % 256)] from rfl) (Reps.one (show Kd.M (Kd.int .u8) _ _ _ ((a0_6) % 256) [.int .u8 ((a0_6) % 256)] from rfl) (Reps.one (show Kd.M (Kd.int .u8) _ _ _ 0 [.int .u8 0] from rfl) (Reps.one (show Kd.M (Kd.int .u8) _ _ _ 0 [.int .u8 0] from rfl) (Reps.none _ _)))))); intro v161 w1021 ho1022 hb hg_ hnew_; clear hg_ hnew_; (first | rw [← Ny160.out] at ho1022 | (simp only [Int.reduceToNat] at ho1022; rw [← Ny160.out] at ho1022)); have n0_ := Aside0.mk (Kd.R_elder' (Rh HO139) (Kd.R_base ho1022) hb); have n1_ := Aside0.mk (Kd.R_elder' (Rh HO142) (Kd.R_base ho1022) hb); have n2_ := Aside0.mk (Kd.R_elder' (Rh HO145) (Kd.R_base ho1022) hb); have n3_ := Aside0.mk (Kd.R_elder' (Rh HO148) (Kd.R_base ho1022) hb); have n4_ := Aside0.mk (Kd.R_elder' (Rh HO151) (Kd.R_base ho1022) hb); have n5_ := Aside0.mk (Kd.R_elder' (Rh HO156) (Kd.R_base ho1022) hb); have n6_ := Aside0.mk (Kd.R_elder' (Rh HO159) (Kd.R_base ho1022) hb); have n7_ := Aside0.mk (Kd.R_lower (Kd.R_new' (Kd.R_new' (Kd.R_new' (Kd.R_new' (Kd.R_new' (Kd.R_new' (Kd.R_new' ho1022 (Kd.R_lt (Rh HO139))) (Kd.R_lt (Rh HO142))) (Kd.R_lt (Rh HO145))) (Kd.R_lt (Rh HO148))) (Kd.R_lt (Rh HO151))) (Kd.R_lt (Rh HO156))) (Kd.R_lt (Rh HO159))) (below_size wB)); have n8_ := Aside0.mk (blk_below (Bh BK136) hb); have n9_ := Aside0.mk (below_step wB hb); clear HO139; clear HO142; clear HO145; clear HO148; clear HO151; clear HO156; clear HO159; clear BK136; clear HB; have HO139 := n0_; have HO142 := n1_; have HO145 := n2_; have HO148 := n3_; have HO151 := n4_; have HO156 := n5_; have HO159 := n6_; have HO162 := n7_; have BK136 := n8_; have HB := n9_; clear n0_ n1_ n2_ n3_ n4_ n5_ n6_ n7_ n8_ n9_; clear hb ho1022; obtain ⟨Ao1023, co1023, eo1023⟩ := Kd.R_slice HO159.out; subst eo1023; obtain ⟨Ao1024, co1024, eo1024⟩ := Kd.R_slice HO162.out; subst eo1024) | ((with_reducible refine gate_callee (f := 27) rfl ?_); refine goesL_ (some 53) rfl rfl Try.func27 (by kernel_rfl) rfl #[.slice Ao1023 t157.length co1023, .slice Ao1024 y160.length co1024] rfl wT ?_; (with_reducible refine (spec_l01Join.calls k _ _ t157 _ _ y160 t163 _ ?side1 ?side2 ?side3 ?side4 A10.out).mono ?_); (case side1 => exact Ch HO159); (case side2 => exact (Kd.R_reads' HO159.out).2.1); (case side3 => exact Ch HO162); (case side4 => exact (Kd.R_reads' HO162.out).2.1); rintro e w1025 ⟨v164, rfl, ho0, hb⟩; refine ⟨_, rfl, ?_⟩; have n0_ := Aside0.mk (Kd.R_elder' (Rh HO139) (Kd.R_base ho0) hb); have n1_ := Aside0.mk (Kd.R_elder' (Rh HO142) (Kd.R_base ho0) hb); have n2_ := Aside0.mk (Kd.R_elder' (Rh HO145) (Kd.R_base ho0) hb); have n3_ := Aside0.mk (Kd.R_elder' (Rh HO148) (Kd.R_base ho0) hb); have n4_ := Aside0.mk (Kd.R_elder' (Rh HO151) (Kd.R_base ho0) hb); have n5_ := Aside0.mk (Kd.R_elder' (Rh HO156) (Kd.R_base ho0) hb); have n6_ := Aside0.mk (Kd.R_elder' (Rh HO159) (Kd.R_base ho0) hb); have n7_ := Aside0.mk (Kd.R_elder' (Rh HO162) (Kd.R_base ho0) hb); have n8_ := Aside0.mk (Kd.R_lower (Kd.R_new' (Kd.R_new' (Kd.R_new' (Kd.R_new' (Kd.R_new' (Kd.R_new' (Kd.R_new' (Kd.R_new' ho0 (Kd.R_lt (Rh HO139))) (Kd.R_lt (Rh HO142))) (Kd.R_lt (Rh HO145))) (Kd.R_lt (Rh HO148))) (Kd.R_lt (Rh HO151))) (Kd.R_lt (Rh HO156))) (Kd.R_lt (Rh HO159))) (Kd.R_lt (Rh HO162))) (below_size wB)); have n9_ := Aside0.mk (blk_below (Bh BK136) hb); have n10_ := Aside0.mk (below_step wB hb); clear HO139; clear HO142; clear HO145; clear HO148; clear HO151; clear HO156; clear HO159; clear HO162; clear BK136; clear HB; have HO139 := n0_; have HO142 := n1_; have HO145 := n2_; have HO148 := n3_; have HO151 := n4_; have HO156 := n5_; have HO159 := n6_; have HO162 := n7_; have HO165 := n8_; have BK136 := n9_; have HB := n10_; clear n0_ n1_ n2_ n3_ n4_ n5_ n6_ n7_ n8_ n9_ n10_; (try clear hb); (try clear hb2); (try clear hk); (try clear hi); (try clear ho0)))
 have n0_ := Aside0.mk (Kd.R_drew HO139.out)
 have n1_ := Aside0.mk (Kd.R_drew HO142.out)
 have n2_ := Aside0.mk (Kd.R_drew HO145.out)
 have n3_ := Aside0.mk (Kd.R_drew HO148.out)
 have n4_ := Aside0.mk (Kd.R_drew HO151.out)
 have n5_ := Aside0.mk (Kd.R_drew HO156.out)
 have n6_ := Aside0.mk (Kd.R_drew HO159.out)
 have n7_ := Aside0.mk (Kd.R_drew HO162.out)
 have n8_ := Aside0.mk (Kd.R_drew HO165.out)
 have n9_ := Aside0.mk (blk_drew BK136.out)
 have n10_ := Aside0.mk (below_drew1 HB.out)
 clear HO139
 clear HO142
 clear HO145
 clear HO148
 clear HO151
 clear HO156
 clear HO159
 clear HO162
 clear HO165
 clear BK136
 clear HB
 have HO139 := n0_
 have HO142 := n1_
 have HO145 := n2_
 have HO148 := n3_
 have HO151 := n4_
 have HO156 := n5_
 have HO159 := n6_
 have HO162 := n7_
 have HO165 := n8_
 have BK136 := n9_
 have HB := n10_
 clear n0_ n1_ n2_ n3_ n4_ n5_ n6_ n7_ n8_ n9_ n10_
 refine start_ (n := 10) (S := fun w' => w'.cell? ⟨gb136, 0, none⟩ = some (.int .i64 a0_0) ∧ w'.cell? ⟨gb136, 1, none⟩ = some (.int .i64 a0_1) ∧ w'.cell? ⟨gb136, 2, none⟩ = some (.bool a0_2) ∧ w'.cell? ⟨gb136, 3, none⟩ = some (.bool a0_3) ∧ w'.cell? ⟨gb136, 4, none⟩ = some (.int .i64 a0_4) ∧ w'.cell? ⟨gb136, 5, none⟩ = some (.int .i64 a0_5) ∧ w'.cell? ⟨gb136, 6, none⟩ = some (.int .i64 a0_6) ∧ w'.cell? ⟨gb136, 7, none⟩ = some (.int .i64 a0_7) ∧ w'.cell? ⟨gb136, 8, none⟩ = some (.int .i64 a0_8) ∧ w'.cell? ⟨gb136, 9, none⟩ = some (.slice A0_9 l0_9.length c0_9) ∧ w'.cell? ⟨gb136, 10, none⟩ = some (.slice A0_10 l0_10.length c0_10)) (ds := []) #[false, false, false, false, false, false, false, false, false, false] (by kernel_rfl) rfl rfl ⟨(blk_cell BK136.out 0).trans rfl, (blk_cell BK136.out 1).trans rfl, (blk_cell BK136.out 2).trans rfl, (blk_cell BK136.out 3).trans rfl, (blk_cell BK136.out 4).trans rfl, (blk_cell BK136.out 5).trans rfl, (blk_cell BK136.out 6).trans rfl, (blk_cell BK136.out 7).trans rfl, (blk_cell BK136.out 8).trans rfl, (blk_cell BK136.out 9).trans rfl, (blk_cell BK136.out 10).trans rfl⟩ (fun hHeld => ?_); refine with_tabW spec_l05Head.tab7 spec_l05Head.bits7 (fun HT_ HW_ => ?_)
 generalize w1025.drew = w1026 at HO139 HO142 HO145 HO148 HO151 HO156 HO159 HO162 HO165 BK136 HB hHeld ⊢
 refine pure_ (i := 0) (N := some 54) (v := ?_) (a' := ?_) #[true, false, false, false, false, false, false, false, false, false] rfl rfl (any_of HT_.out (by kernel_rfl)) (fun _ _ _ h => h) (Or.inl ⟨by rfl, ?_⟩) ?_ ?_
 rotate_left
 {
 intro w'
 go_simp
 with_reducible rfl
 }
 rotate_left
 {
 simp only [Act.put, List.setIfInBounds_toArray, List.set_cons_zero, List.set_cons_succ, i64_w, i32_w]
 rfl
 }
 refine pure_ (i := 1) (N := some 55) (v := ?_) (a' := ?_) #[true, true, false, false, false, false, false, false, false, false] rfl rfl (any_of HT_.out (by kernel_rfl)) (fun _ _ _ h => h) (Or.inl ⟨by rfl, ?_⟩) ?_ ?_
 rotate_left
 {
 intro w'
 go_simp
 with_reducible rfl
 }
 rotate_left
 {
 simp only [Act.put, List.setIfInBounds_toArray, List.set_cons_zero, List.set_cons_succ, i64_w, i32_w]
 rfl
 }
 refine pure_ (i := 5) (N := some 59) (v := ?_) (a' := ?_) #[true, true, false, false, false, true, false, false, false, false] rfl rfl (any_of HT_.out (by kernel_rfl)) (fun _ _ _ h => h) (Or.inl ⟨by rfl, ?_⟩) ?_ ?_
 rotate_left
 {
 intro w'
 go_simp
 with_reducible rfl
 }
 rotate_left
 {
 simp only [Act.put, List.setIfInBounds_toArray, List.set_cons_zero, List.set_cons_succ, i64_w, i32_w]
 rfl
 }
 refine take_ (i := 2) (N := some 56) (v := ?_) (a' := ?_) #[true, true, true, false, false, true, false, false, false, false] rfl rfl (take_ofW HT_.out HW_.out (by kernel_rfl)) (fun _ _ _ h => h) (Or.inl ⟨by rfl, ?_⟩) hHeld ?_ ?_
 rotate_left
 {
 rintro w' ⟨s0, s1, s2, s3, s4, s5, s6, s7, s8, s9, s10⟩
 go_simp
 with_reducible rfl
 }
 rotate_left
 {
 simp only [Act.put, List.setIfInBounds_toArray, List.set_cons_zero, List.set_cons_succ, i64_w, i32_w]
 rfl
 }
 refine take_ (i := 6) (N := some 60) (v := ?_) (a' := ?_) #[true, true, true, false, false, true, true, false, false, false] rfl rfl (take_ofW HT_.out HW_.out (by kernel_rfl)) (fun _ _ _ h => h) (Or.inl ⟨by rfl, ?_⟩) hHeld ?_ ?_
 rotate_left
 {
 rintro w' ⟨s0, s1, s2, s3, s4, s5, s6, s7, s8, s9, s10⟩
 go_simp
 with_reducible rfl
 }
 rotate_left
 {
 simp only [Act.put, List.setIfInBounds_toArray, List.set_cons_zero, List.set_cons_succ, i64_w, i32_w]
 rfl
 }
 refine one_ (i := 3) (N := some 57) #[true, true, true, true, false, true, true, false, false, false] rfl rfl (one_of HT_.out (by kernel_rfl)) (by decide) (fun K hK => ?_)
 refine goes_ Try.func32 (by kernel_rfl) rfl #[.int .i64 a0_7, .int .i64 4] (by rfl) rfl rfl wT ?_
 with_reducible refine (spec_l03Put.calls k a0_7 4 t166 _ A11.out).mono ?_
 rintro e w1027 ⟨v167, rfl, ho0, hb⟩
 refine ⟨_, rfl, ?_⟩
 have n0_ := Aside0.mk (Kd.R_elder' (Rh HO139) (Kd.R_base ho0) hb)
 have n1_ := Aside0.mk (Kd.R_elder' (Rh HO142) (Kd.R_base ho0) hb)
 have n2_ := Aside0.mk (Kd.R_elder' (Rh HO145) (Kd.R_base ho0) hb)
 have n3_ := Aside0.mk (Kd.R_elder' (Rh HO148) (Kd.R_base ho0) hb)
 have n4_ := Aside0.mk (Kd.R_elder' (Rh HO151) (Kd.R_base ho0) hb)
 have n5_ := Aside0.mk (Kd.R_elder' (Rh HO156) (Kd.R_base ho0) hb)
 have n6_ := Aside0.mk (Kd.R_elder' (Rh HO159) (Kd.R_base ho0) hb)
 have n7_ := Aside0.mk (Kd.R_elder' (Rh HO162) (Kd.R_base ho0) hb)
 have n8_ := Aside0.mk (Kd.R_elder' (Rh HO165) (Kd.R_base ho0) hb)
 have n9_ := Aside0.mk (Kd.R_lower (Kd.R_new' (Kd.R_new' (Kd.R_new' (Kd.R_new' (Kd.R_new' (Kd.R_new' (Kd.R_new' (Kd.R_new' (Kd.R_new' ho0 (Kd.R_lt (Rh HO139))) (Kd.R_lt (Rh HO142))) (Kd.R_lt (Rh HO145))) (Kd.R_lt (Rh HO148))) (Kd.R_lt (Rh HO151))) (Kd.R_lt (Rh HO156))) (Kd.R_lt (Rh HO159))) (Kd.R_lt (Rh HO162))) (Kd.R_lt (Rh HO165))) (below_size wB))
 have n10_ := Aside0.mk (blk_below (Bh BK136) hb)
 have n11_ := Aside0.mk (below_step wB hb)
 clear HO139
 clear HO142
 clear HO145
 clear HO148
 clear HO151
 clear HO156
 clear HO159
 clear HO162
 clear HO165
 clear BK136
 clear HB
 have HO139 := n0_
 have HO142 := n1_
 have HO145 := n2_
 have HO148 := n3_
 have HO151 := n4_
 have HO156 := n5_
 have HO159 := n6_
 have HO162 := n7_
 have HO165 := n8_
 have HO168 := n9_
 have BK136 := n10_
 have HB := n11_
 clear n0_ n1_ n2_ n3_ n4_ n5_ n6_ n7_ n8_ n9_ n10_ n11_
 (try clear hb)
 (try clear hb2)
 (try clear hk)
 (try clear hi)
 (try clear ho0)
 obtain ⟨Ao1028, co1028, eo1028⟩ := Kd.R_slice HO165.out
 (first | subst eo1028 | (injection eo1028 with f1_ f2_ f3_; have f4_ := f1_.symm; have f5_ := f3_.symm; clear f1_ f2_ f3_; subst f4_; subst f5_))
 obtain ⟨Ao1029, co1029, eo1029⟩ := Kd.R_slice HO168.out
 (first | subst eo1029 | (injection eo1029 with f1_ f2_ f3_; have f4_ := f1_.symm; have f5_ := f3_.symm; clear f1_ f2_ f3_; subst f4_; subst f5_))
 refine hK.out _ _ ⟨(blk_cell BK136.out 0).trans rfl, (blk_cell BK136.out 1).trans rfl, (blk_cell BK136.out 2).trans rfl, (blk_cell BK136.out 3).trans rfl, (blk_cell BK136.out 4).trans rfl, (blk_cell BK136.out 5).trans rfl, (blk_cell BK136.out 6).trans rfl, (blk_cell BK136.out 7).trans rfl, (blk_cell BK136.out 8).trans rfl, (blk_cell BK136.out 9).trans rfl, (blk_cell BK136.out 10).trans rfl⟩ (fun hHeld => ?_)
 clear hK K
 refine norm_ (a' := ?_) ?_ ?_
 rotate_left
 {
 show Act.put _ (some 57) _ = _
 simp only [Act.put, List.setIfInBounds_toArray, List.set_cons_zero, List.set_cons_succ, i64_w, i32_w]
 rfl
 }
 refine one_ (i := 4) (N := some 58) #[true, true, true, true, true, true, true, false, false, false] rfl rfl (one_of HT_.out (by kernel_rfl)) (by decide) (fun K hK => ?_)
 refine goes_ Try.func27 (by kernel_rfl) rfl #[.slice Ao1028 t163.length co1028, .slice Ao1029 t166.length co1029] (by rfl) rfl rfl wT ?_
 with_reducible refine (spec_l01Join.calls k _ _ t163 _ _ t166 t169 _ ?side1 ?side2 ?side3 ?side4 A12.out).mono ?_
 (case side1 => exact Ch HO165)
 (case side2 => exact (Kd.R_reads' HO165.out).2.1)
 (case side3 => exact Ch HO168)
 (case side4 => exact (Kd.R_reads' HO168.out).2.1)
 rintro e w1030 ⟨v170, rfl, ho0, hb⟩
 refine ⟨_, rfl, ?_⟩
 have n0_ := Aside0.mk (Kd.R_elder' (Rh HO139) (Kd.R_base ho0) hb)
 have n1_ := Aside0.mk (Kd.R_elder' (Rh HO142) (Kd.R_base ho0) hb)
 have n2_ := Aside0.mk (Kd.R_elder' (Rh HO145) (Kd.R_base ho0) hb)
 have n3_ := Aside0.mk (Kd.R_elder' (Rh HO148) (Kd.R_base ho0) hb)
 have n4_ := Aside0.mk (Kd.R_elder' (Rh HO151) (Kd.R_base ho0) hb)
 have n5_ := Aside0.mk (Kd.R_elder' (Rh HO156) (Kd.R_base ho0) hb)
 have n6_ := Aside0.mk (Kd.R_elder' (Rh HO159) (Kd.R_base ho0) hb)
 have n7_ := Aside0.mk (Kd.R_elder' (Rh HO162) (Kd.R_base ho0) hb)
 have n8_ := Aside0.mk (Kd.R_elder' (Rh HO165) (Kd.R_base ho0) hb)
 have n9_ := Aside0.mk (Kd.R_elder' (Rh HO168) (Kd.R_base ho0) hb)
 have n10_ := Aside0.mk (Kd.R_lower (Kd.R_new' (Kd.R_new' (Kd.R_new' (Kd.R_new' (Kd.R_new' (Kd.R_new' (Kd.R_new' (Kd.R_new' (Kd.R_new' (Kd.R_new' ho0 (Kd.R_lt (Rh HO139))) (Kd.R_lt (Rh HO142))) (Kd.R_lt (Rh HO145))) (Kd.R_lt (Rh HO148))) (Kd.R_lt (Rh HO151))) (Kd.R_lt (Rh HO156))) (Kd.R_lt (Rh HO159))) (Kd.R_lt (Rh HO162))) (Kd.R_lt (Rh HO165))) (Kd.R_lt (Rh HO168))) (below_size wB))
 have n11_ := Aside0.mk (blk_below (Bh BK136) hb)
 have n12_ := Aside0.mk (below_step wB hb)
 clear HO139
 clear HO142
 clear HO145
 clear HO148
 clear HO151
 clear HO156
 clear HO159
 clear HO162
 clear HO165
 clear HO168
 clear BK136
 clear HB
 have HO139 := n0_
 have HO142 := n1_
 have HO145 := n2_
 have HO148 := n3_
 have HO151 := n4_
 have HO156 := n5_
 have HO159 := n6_
 have HO162 := n7_
 have HO165 := n8_
 have HO168 := n9_
 have HO171 := n10_
 have BK136 := n11_
 have HB := n12_
 clear n0_ n1_ n2_ n3_ n4_ n5_ n6_ n7_ n8_ n9_ n10_ n11_ n12_
 (try clear hb)
 (try clear hb2)
 (try clear hk)
 (try clear hi)
 (try clear ho0)
 refine hK.out _ _ ⟨(blk_cell BK136.out 0).trans rfl, (blk_cell BK136.out 1).trans rfl, (blk_cell BK136.out 2).trans rfl, (blk_cell BK136.out 3).trans rfl, (blk_cell BK136.out 4).trans rfl, (blk_cell BK136.out 5).trans rfl, (blk_cell BK136.out 6).trans rfl, (blk_cell BK136.out 7).trans rfl, (blk_cell BK136.out 8).trans rfl, (blk_cell BK136.out 9).trans rfl, (blk_cell BK136.out 10).trans rfl⟩ (fun hHeld => ?_)
 clear hK K
 refine norm_ (a' := ?_) ?_ ?_
 rotate_left
 {
 show Act.put _ (some 58) _ = _
 simp only [Act.put, List.setIfInBounds_toArray, List.set_cons_zero, List.set_cons_succ, i64_w, i32_w]
 rfl
 }
 refine one_ (i := 7) (N := some 61) #[true, true, true, true, true, true, true, true, false, false] rfl rfl (one_of HT_.out (by kernel_rfl)) (by decide) (fun K hK => ?_)
 refine goes_ Try.func32 (by kernel_rfl) rfl #[.int .i64 a0_8, .int .i64 4] (by rfl) rfl rfl wT ?_
 with_reducible refine (spec_l03Put.calls k a0_8 4 t172 _ A13.out).mono ?_
 rintro e w1031 ⟨v173, rfl, ho0, hb⟩
 refine ⟨_, rfl, ?_⟩
 have n0_ := Aside0.mk (Kd.R_elder' (Rh HO139) (Kd.R_base ho0) hb)
 have n1_ := Aside0.mk (Kd.R_elder' (Rh HO142) (Kd.R_base ho0) hb)
 have n2_ := Aside0.mk (Kd.R_elder' (Rh HO145) (Kd.R_base ho0) hb)
 have n3_ := Aside0.mk (Kd.R_elder' (Rh HO148) (Kd.R_base ho0) hb)
 have n4_ := Aside0.mk (Kd.R_elder' (Rh HO151) (Kd.R_base ho0) hb)
 have n5_ := Aside0.mk (Kd.R_elder' (Rh HO156) (Kd.R_base ho0) hb)
 have n6_ := Aside0.mk (Kd.R_elder' (Rh HO159) (Kd.R_base ho0) hb)
 have n7_ := Aside0.mk (Kd.R_elder' (Rh HO162) (Kd.R_base ho0) hb)
 have n8_ := Aside0.mk (Kd.R_elder' (Rh HO165) (Kd.R_base ho0) hb)
 have n9_ := Aside0.mk (Kd.R_elder' (Rh HO168) (Kd.R_base ho0) hb)
 have n10_ := Aside0.mk (Kd.R_elder' (Rh HO171) (Kd.R_base ho0) hb)
 have n11_ := Aside0.mk (Kd.R_lower (Kd.R_new' (Kd.R_new' (Kd.R_new' (Kd.R_new' (Kd.R_new' (Kd.R_new' (Kd.R_new' (Kd.R_new' (Kd.R_new' (Kd.R_new' (Kd.R_new' ho0 (Kd.R_lt (Rh HO139))) (Kd.R_lt (Rh HO142))) (Kd.R_lt (Rh HO145))) (Kd.R_lt (Rh HO148))) (Kd.R_lt (Rh HO151))) (Kd.R_lt (Rh HO156))) (Kd.R_lt (Rh HO159))) (Kd.R_lt (Rh HO162))) (Kd.R_lt (Rh HO165))) (Kd.R_lt (Rh HO168))) (Kd.R_lt (Rh HO171))) (below_size wB))
 have n12_ := Aside0.mk (blk_below (Bh BK136) hb)
 have n13_ := Aside0.mk (below_step wB hb)
 clear HO139
 clear HO142
 clear HO145
 clear HO148
 clear HO151
 clear HO156
 clear HO159
 clear HO162
 clear HO165
 clear HO168
 clear HO171
 clear BK136
 clear HB
 have HO139 := n0_
 have HO142 := n1_
 have HO145 := n2_
 have HO148 := n3_
 have HO151 := n4_
 have HO156 := n5_
 have HO159 := n6_
 have HO162 := n7_
 have HO165 := n8_
 have HO168 := n9_
 have HO171 := n10_
 have HO174 := n11_
 have BK136 := n12_
 have HB := n13_
 clear n0_ n1_ n2_ n3_ n4_ n5_ n6_ n7_ n8_ n9_ n10_ n11_ n12_ n13_
 (try clear hb)
 (try clear hb2)
 (try clear hk)
 (try clear hi)
 (try clear ho0)
 obtain ⟨Ao1032, co1032, eo1032⟩ := Kd.R_slice HO171.out
 (first | subst eo1032 | (injection eo1032 with f1_ f2_ f3_; have f4_ := f1_.symm; have f5_ := f3_.symm; clear f1_ f2_ f3_; subst f4_; subst f5_))
 obtain ⟨Ao1033, co1033, eo1033⟩ := Kd.R_slice HO174.out
 (first | subst eo1033 | (injection eo1033 with f1_ f2_ f3_; have f4_ := f1_.symm; have f5_ := f3_.symm; clear f1_ f2_ f3_; subst f4_; subst f5_))
 refine hK.out _ _ ⟨(blk_cell BK136.out 0).trans rfl, (blk_cell BK136.out 1).trans rfl, (blk_cell BK136.out 2).trans rfl, (blk_cell BK136.out 3).trans rfl, (blk_cell BK136.out 4).trans rfl, (blk_cell BK136.out 5).trans rfl, (blk_cell BK136.out 6).trans rfl, (blk_cell BK136.out 7).trans rfl, (blk_cell BK136.out 8).trans rfl, (blk_cell BK136.out 9).trans rfl, (blk_cell BK136.out 10).trans rfl⟩ (fun hHeld => ?_)
 clear hK K
 refine norm_ (a' := ?_) ?_ ?_
 rotate_left
 {
 show Act.put _ (some 61) _ = _
 simp only [Act.put, List.setIfInBounds_toArray, List.set_cons_zero, List.set_cons_succ, i64_w, i32_w]
 rfl
 }
 refine one_ (i := 8) (N := some 62) #[true, true, true, true, true, true, true, true, true, false] rfl rfl (one_of HT_.out (by kernel_rfl)) (by decide) (fun K hK => ?_)
 refine goes_ Try.func27 (by kernel_rfl) rfl #[.slice Ao1032 t169.length co1032, .slice Ao1033 t172.length co1033] (by rfl) rfl rfl wT ?_
 with_reducible refine (spec_l01Join.calls k _ _ t169 _ _ t172 t175 _ ?side1 ?side2 ?side3 ?side4 A14.out).mono ?_
 (case side1 => exact Ch HO171)
 (case side2 => exact (Kd.R_reads' HO171.out).2.1)
 (case side3 => exact Ch HO174)
 (case side4 => exact (Kd.R_reads' HO174.out).2.1)
 rintro e w1034 ⟨v176, rfl, ho0, hb⟩
 refine ⟨_, rfl, ?_⟩
 have n0_ := Aside0.mk (Kd.R_elder' (Rh HO139) (Kd.R_base ho0) hb)
 have n1_ := Aside0.mk (Kd.R_elder' (Rh HO142) (Kd.R_base ho0) hb)
 have n2_ := Aside0.mk (Kd.R_elder' (Rh HO145) (Kd.R_base ho0) hb)
 have n3_ := Aside0.mk (Kd.R_elder' (Rh HO148) (Kd.R_base ho0) hb)
 have n4_ := Aside0.mk (Kd.R_elder' (Rh HO151) (Kd.R_base ho0) hb)
 have n5_ := Aside0.mk (Kd.R_elder' (Rh HO156) (Kd.R_base ho0) hb)
 have n6_ := Aside0.mk (Kd.R_elder' (Rh HO159) (Kd.R_base ho0) hb)
 have n7_ := Aside0.mk (Kd.R_elder' (Rh HO162) (Kd.R_base ho0) hb)
 have n8_ := Aside0.mk (Kd.R_elder' (Rh HO165) (Kd.R_base ho0) hb)
 have n9_ := Aside0.mk (Kd.R_elder' (Rh HO168) (Kd.R_base ho0) hb)
 have n10_ := Aside0.mk (Kd.R_elder' (Rh HO171) (Kd.R_base ho0) hb)
 have n11_ := Aside0.mk (Kd.R_elder' (Rh HO174) (Kd.R_base ho0) hb)
 have n12_ := Aside0.mk (Kd.R_lower (Kd.R_new' (Kd.R_new' (Kd.R_new' (Kd.R_new' (Kd.R_new' (Kd.R_new' (Kd.R_new' (Kd.R_new' (Kd.R_new' (Kd.R_new' (Kd.R_new' (Kd.R_new' ho0 (Kd.R_lt (Rh HO139))) (Kd.R_lt (Rh HO142))) (Kd.R_lt (Rh HO145))) (Kd.R_lt (Rh HO148))) (Kd.R_lt (Rh HO151))) (Kd.R_lt (Rh HO156))) (Kd.R_lt (Rh HO159))) (Kd.R_lt (Rh HO162))) (Kd.R_lt (Rh HO165))) (Kd.R_lt (Rh HO168))) (Kd.R_lt (Rh HO171))) (Kd.R_lt (Rh HO174))) (below_size wB))
 have n13_ := Aside0.mk (blk_below (Bh BK136) hb)
 have n14_ := Aside0.mk (below_step wB hb)
 clear HO139
 clear HO142
 clear HO145
 clear HO148
 clear HO151
 clear HO156
 clear HO159
 clear HO162
 clear HO165
 clear HO168
 clear HO171
 clear HO174
 clear BK136
 clear HB
 have HO139 := n0_
 have HO142 := n1_
 have HO145 := n2_
 have HO148 := n3_
 have HO151 := n4_
 have HO156 := n5_
 have HO159 := n6_
 have HO162 := n7_
 have HO165 := n8_
 have HO168 := n9_
 have HO171 := n10_
 have HO174 := n11_
 have HO177 := n12_
 have BK136 := n13_
 have HB := n14_
 clear n0_ n1_ n2_ n3_ n4_ n5_ n6_ n7_ n8_ n9_ n10_ n11_ n12_ n13_ n14_
 (try clear hb)
 (try clear hb2)
 (try clear hk)
 (try clear hi)
 (try clear ho0)
 refine hK.out _ _ ⟨(blk_cell BK136.out 0).trans rfl, (blk_cell BK136.out 1).trans rfl, (blk_cell BK136.out 2).trans rfl, (blk_cell BK136.out 3).trans rfl, (blk_cell BK136.out 4).trans rfl, (blk_cell BK136.out 5).trans rfl, (blk_cell BK136.out 6).trans rfl, (blk_cell BK136.out 7).trans rfl, (blk_cell BK136.out 8).trans rfl, (blk_cell BK136.out 9).trans rfl, (blk_cell BK136.out 10).trans rfl⟩ (fun hHeld => ?_)
 clear hK K
 refine norm_ (a' := ?_) ?_ ?_
 rotate_left
 {
 show Act.put _ (some 62) _ = _
 simp only [Act.put, List.setIfInBounds_toArray, List.set_cons_zero, List.set_cons_succ, i64_w, i32_w]
 rfl
 }
 refine pure_ (i := 9) (N := some 4) (v := ?_) (a' := ?_) #[true, true, true, true, true, true, true, true, true, true] rfl rfl (any_of HT_.out (by kernel_rfl)) (fun _ _ _ h => h) (Or.inl ⟨by rfl, ?_⟩) ?_ ?_
 rotate_left
 {
 intro w'
 go_simp
 with_reducible rfl
 }
 rotate_left
 {
 simp only [Act.put, List.setIfInBounds_toArray, List.set_cons_zero, List.set_cons_succ, i64_w, i32_w]
 rfl
 }
 refine done_ (done_of HT_.out (by kernel_rfl)) ?_
 obtain ⟨⟨hcz1035_0, hcz1035_1, hcz1035_2, hcz1035_3, hcz1035_4, hcz1035_5, hcz1035_6, hcz1035_7, hcz1035_8, hcz1035_9, hcz1035_10⟩, hfz1035_0, hfz1035_1, hfz1035_2, hfz1035_3, hfz1035_4, hfz1035_5, hfz1035_6, hfz1035_7, hfz1035_8, hfz1035_9, hfz1035_10⟩ := cells11 BK136.out
 have n_ := Aside0.mk (Kd.R_mono (ok' := (fun _ => True)) HO177.out (fun k_ hk => trivial))
 clear HO177
 have HO177 := n_
 clear n_
 (try clear HO139)
 (try clear HO142)
 (try clear HO145)
 (try clear HO148)
 (try clear HO151)
 (try clear HO156)
 (try clear HO159)
 (try clear HO162)
 (try clear HO165)
 (try clear HO168)
 (try clear HO171)
 (try clear HO174)
 obtain ⟨Ao1036, co1036, eo1036⟩ := Kd.R_slice HO177.out
 subst eo1036
 try go_wp2_with (first | ((with_reducible refine gate_callee (f := 27) rfl ?_); refine goesL_ (some 66) rfl rfl Try.func27 (by kernel_rfl) rfl #[.slice Ao1036 t175.length co1036, .slice A0_9 l0_9.length c0_9] rfl wT ?_; (with_reducible refine (spec_l01Join.calls k _ _ t175 _ _ l0_9 t178 _ ?side1 ?side2 ?side3 ?side4 A15.out).mono ?_); (case side1 => exact Ch HO177); (case side2 => exact (Kd.R_reads' HO177.out).2.1); (case side3 => exact Kd.C_below HR0_9.out wB); (case side4 => exact HC0_9.out); rintro e w1037 ⟨v179, rfl, ho0, hb⟩; refine ⟨_, rfl, ?_⟩; have n0_ := Aside0.mk (Kd.R_elder' (Rh HO177) (Kd.R_base ho0) hb); have n1_ := Aside0.mk (Kd.R_lower (Kd.R_new' ho0 (Kd.R_lt (Rh HO177))) (below_size wB)); have n2_ := Aside0.mk (blk_below (Bh BK136) hb); have n3_ := Aside0.mk (below_step wB hb); clear HO177; clear BK136; clear HB; have HO177 := n0_; have HO180 := n1_; have BK136 := n2_; have HB := n3_; clear n0_ n1_ n2_ n3_; (try clear hb); (try clear hb2); (try clear hk); (try clear hi); (try clear ho0); have n_ := Aside0.mk (Kd.R_mono (ok' := (fun _ => True)) HO180.out (fun k_ hk => trivial)); clear HO180; have HO180 := n_; clear n_; (try clear HO177); obtain ⟨Ao1038, co1038, eo1038⟩ := Kd.R_slice HO180.out; subst eo1038) | ((with_reducible refine gate_callee (f := 34) rfl ?_); refine goesL_ (some 68) rfl rfl Try.func34 (by kernel_rfl) rfl #[.slice Ao1038 t178.length co1038] rfl wT ?_; (with_reducible refine (spec_Checksum.calls k _ _ t178 t181 _ ?side1 ?side2 A16.out).mono ?_); (case side1 => exact Ch HO180); (case side2 => exact (Kd.R_reads' HO180.out).2.1); rintro e w' ⟨rfl, ⟨nd, rfl⟩⟩; refine ⟨_, rfl, ?_⟩; (try (rw [drewN_self w1037]; generalize hq_ : World.drewN w1037 _ = w1037; have n0_ := Aside0.mk (Kd.R_at hq_ HO180.out); have n1_ := Aside0.mk (blk_at hq_ BK136.out); have n2_ := Aside0.mk (below_at hq_ HB.out); clear hq_ HO180 BK136 HB; have HO180 := n0_; have BK136 := n1_; have HB := n2_; clear n0_ n1_ n2_; (try (obtain ⟨⟨hcyBK136_0, hcyBK136_1, hcyBK136_2, hcyBK136_3, hcyBK136_4, hcyBK136_5, hcyBK136_6, hcyBK136_7, hcyBK136_8, hcyBK136_9, hcyBK136_10⟩, hfyBK136_0, hfyBK136_1, hfyBK136_2, hfyBK136_3, hfyBK136_4, hfyBK136_5, hfyBK136_6, hfyBK136_7, hfyBK136_8, hfyBK136_9, hfyBK136_10⟩ := cells11 BK136.out)))); have p18 : 0 ≤ (10 : Int) := (by omega); have q18 : (10 : Int) < ((t178.length : Int) : Int) := of_decide_eq_true (by first | (with_reducible assumption) | assumption); have qi18 : (10 < t178.length) = True := eq_true (by omega); obtain ⟨go18, co18, eo18, gb18, gl18, cl18, HG18⟩ := Kd.R_form HO180.out (by omega); (first | cases eo18 | (injection eo18 with ea_ en_ ec_; (first | subst ea_ | (injection ea_ with ea_; subst ea_)); subst ec_; clear en_)); have GB18 := Aside0.mk gb18; have GG18 := Aside0.mk HG18; clear gb18 gl18 HG18; obtain ⟨hx18_0, hf18_0⟩ := Kd.R_celln 0 HO180.out (10 : Int) p18 q18; (try rw [show ((10 : Int)).toNat = 10 from rfl] at hx18_0); (try simp only [Nat.reduceMul, Nat.zero_mul, Nat.zero_add, Nat.reduceAdd] at hx18_0); (try rw [show ((10 : Int)).toNat = 10 from rfl] at hf18_0); (try simp only [Nat.reduceMul, Nat.zero_mul, Nat.zero_add, Nat.reduceAdd] at hf18_0); replace p18 := eq_true p18; replace q18 := eq_true q18; obtain ⟨hy1039_, hz1039_⟩ := Kd.R_celln 0 HO180.out (10 : Int) (by omega) (of_decide_eq_true (by first | (with_reducible assumption) | assumption)); (try simp only [Int.reduceToNat, Int.toNat_zero, Int.toNat_ofNat, Nat.reduceMul, Nat.zero_mul, Nat.zero_add] at hy1039_ hz1039_); (try rw [show ((10 : Int)).toNat = 10 from rfl] at hy1039_); (try rw [show ((10 : Int)).toNat = 10 from rfl] at hz1039_); have HP1039 := Kd.R_putg HO180.out (10 : Int) ((t181 / 256) % 256)) | ((with_reducible refine gate_store (t := 5) (p := 73) rfl ?_); (try (rw [drewN_self w1037]; generalize hq_ : World.drewN w1037 _ = w1037; have n0_ := Aside0.mk (Kd.R_at hq_ HO180.out); have n1_ := Aside0.mk (blk_at hq_ BK136.out); have n2_ := Aside0.mk (below_at hq_ HB.out); clear hq_ HO180 BK136 HB; have HO180 := n0_; have BK136 := n1_; have HB := n2_; clear n0_ n1_ n2_; (try (obtain ⟨⟨hcyBK136_0, hcyBK136_1, hcyBK136_2, hcyBK136_3, hcyBK136_4, hcyBK136_5, hcyBK136_6, hcyBK136_7, hcyBK136_8, hcyBK136_9, hcyBK136_10⟩, hfyBK136_0, hfyBK136_1, hfyBK136_2, hfyBK136_3, hfyBK136_4, hfyBK136_5, hfyBK136_6, hfyBK136_7, hfyBK136_8, hfyBK136_9, hfyBK136_10⟩ := cells11 BK136.out)); (try (obtain ⟨hy1039_, hz1039_⟩ := Kd.R_celln 0 HO180.out (10 : Int) (by omega) (of_decide_eq_true (by first | (with_reducible assumption) | assumption)))); (try (try simp only [Int.reduceToNat, Int.toNat_zero, Int.toNat_ofNat, Nat.reduceMul, Nat.zero_mul, Nat.zero_add] at hy1039_ hz1039_)); (try (try rw [show ((10 : Int)).toNat = 10 from rfl] at hy1039_)); (try (try rw [show ((10 : Int)).toNat = 10 from rfl] at hz1039_)); (try (have HP1039 := Kd.R_putg HO180.out (10 : Int) ((t181 / 256) % 256))))); refine store_event (t := 5) (p := 73) (v := ?_) (w1 := (w1037.setCell ⟨go18, (10 : Int).toNat, none⟩ (.int .u8 ((t181 / 256) % 256)))) ?hg ?ho ?hn ?hr ?_; (case ho => rfl); (case hg => rfl); (case hn => rfl); (case hr => first | (go_simp; done) | (go_simp; rfl)); intro w1040 hw; have hg : w1037.grownBy w1040 (some go18) := (by rw [hw]; exact HP1039.2); have hp_ : Kd.R (Kd.int .u8) 5 w1040 w.heap.size (fun _ => True) (.slice (some ⟨go18, 0, none⟩) t178.length co1038) y182 := (by rw [hw, Ny182.out]; exact HP1039.1); clear HP1039; have n0_ := Aside0.mk (blk_grown (Bh BK136) hg (Kd.R_ne HO180.out BK136.out (by decide))); have n1_ := Aside0.mk (hp_); have n2_ := Aside0.mk ((by rw [hw]; exact below_set (HB.out) GB18.out : Below w.heap.size w w1040)); clear BK136; clear HO180; clear HB; have BK136 := n0_; have HO180 := n1_; have HB := n2_; clear n0_ n1_ n2_; clear hg hw hp_; have p20 : 0 ≤ (11 : Int) := (by omega); have q20 : (11 : Int) < ((t178.length : Int) : Int) := of_decide_eq_true (by first | (with_reducible assumption) | assumption); have qi20 : (11 < t178.length) = True := eq_true (by omega); obtain ⟨hx20_0, hf20_0⟩ := Kd.R_celln 0 HO180.out (11 : Int) p20 q20; (try rw [show ((11 : Int)).toNat = 11 from rfl] at hx20_0); (try simp only [Nat.reduceMul, Nat.zero_mul, Nat.zero_add, Nat.reduceAdd] at hx20_0); (try rw [show ((11 : Int)).toNat = 11 from rfl] at hf20_0); (try simp only [Nat.reduceMul, Nat.zero_mul, Nat.zero_add, Nat.reduceAdd] at hf20_0); replace p20 := eq_true p20; replace q20 := eq_true q20; obtain ⟨hy1041_, hz1041_⟩ := Kd.R_celln 0 HO180.out (11 : Int) (by omega) (of_decide_eq_true (by first | (with_reducible assumption) | assumption)); (try simp only [Int.reduceToNat, Int.toNat_zero, Int.toNat_ofNat, Nat.reduceMul, Nat.zero_mul, Nat.zero_add] at hy1041_ hz1041_); (try rw [show ((11 : Int)).toNat = 11 from rfl] at hy1041_); (try rw [show ((11 : Int)).toNat = 11 from rfl] at hz1041_); have HP1041 := Kd.R_putg HO180.out (11 : Int) ((t181) % 256)) | ((with_reducible refine gate_store (t := 5) (p := 77) rfl ?_); (try (rw [drewN_self w1040]; generalize hq_ : World.drewN w1040 _ = w1040; have n0_ := Aside0.mk (Kd.R_at hq_ HO180.out); have n1_ := Aside0.mk (blk_at hq_ BK136.out); have n2_ := Aside0.mk (below_at hq_ HB.out); clear hq_ HO180 BK136 HB; have HO180 := n0_; have BK136 := n1_; have HB := n2_; clear n0_ n1_ n2_; (try (obtain ⟨⟨hcyBK136_0, hcyBK136_1, hcyBK136_2, hcyBK136_3, hcyBK136_4, hcyBK136_5, hcyBK136_6, hcyBK136_7, hcyBK136_8, hcyBK136_9, hcyBK136_10⟩, hfyBK136_0, hfyBK136_1, hfyBK136_2, hfyBK136_3, hfyBK136_4, hfyBK136_5, hfyBK136_6, hfyBK136_7, hfyBK136_8, hfyBK136_9, hfyBK136_10⟩ := cells11 BK136.out)); (try (obtain ⟨hy1041_, hz1041_⟩ := Kd.R_celln 0 HO180.out (11 : Int) (by omega) (of_decide_eq_true (by first | (with_reducible assumption) | assumption)))); (try (try simp only [Int.reduceToNat, Int.toNat_zero, Int.toNat_ofNat, Nat.reduceMul, Nat.zero_mul, Nat.zero_add] at hy1041_ hz1041_)); (try (try rw [show ((11 : Int)).toNat = 11 from rfl] at hy1041_)); (try (try rw [show ((11 : Int)).toNat = 11 from rfl] at hz1041_)); (try (have HP1041 := Kd.R_putg HO180.out (11 : Int) ((t181) % 256))))); refine store_event (t := 5) (p := 77) (v := ?_) (w1 := (w1040.setCell ⟨go18, (11 : Int).toNat, none⟩ (.int .u8 ((t181) % 256)))) ?hg ?ho ?hn ?hr ?_; (case ho => rfl); (case hg => rfl); (case hn => rfl); (case hr => first | (go_simp; done) | (go_simp; rfl)); intro w1042 hw; have hg : w1040.grownBy w1042 (some go18) := (by rw [hw]; exact HP1041.2); have hp_ : Kd.R (Kd.int .u8) 5 w1042 w.heap.size (fun _ => True) (.slice (some ⟨go18, 0, none⟩) t178.length co1038) y183 := (by rw [hw, Ny183.out]; exact HP1041.1); clear HP1041; have n0_ := Aside0.mk (blk_grown (Bh BK136) hg (Kd.R_ne HO180.out BK136.out (by decide))); have n1_ := Aside0.mk (hp_); have n2_ := Aside0.mk ((by rw [hw]; exact below_set (HB.out) GB18.out : Below w.heap.size w w1042)); clear BK136; clear HO180; clear HB; have BK136 := n0_; have HO180 := n1_; have HB := n2_; clear n0_ n1_ n2_; clear hg hw hp_))
 go_ret
 exact ⟨_, by first | rfl | (simp [errW_none, errW_some] <;> rfl) | (simp [*, errW_none, errW_some] <;> rfl), by (with_reducible repeat (first | apply Kd.R_alloc | apply Kd.R_drewN | apply Kd.R_drew)); exact HO180.out, wB⟩
 }
 {
 rw [if_neg c19] at H
 exact absurd H (by simp)
 }
 }
 {
 rw [if_neg c17] at H
 exact absurd H (by simp)
 }

end Go.Proofs.Ytcapkpbjppenpaa.PFnExactFragment
