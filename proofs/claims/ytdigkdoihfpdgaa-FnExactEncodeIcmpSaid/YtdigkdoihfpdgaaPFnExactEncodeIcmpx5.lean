-- Written for this claim by a program of this session (wip/mkprint.py: the print, turned at a few places). Not trusted: Lean checks it.
import Derived.Test.YtdigkdoihfpdgaaPFnExactEncodeIcmpx0
import Derived.Test.YtdigkdoihfpdgaaPFnExactEncodeIcmpx1
import Derived.Test.YtdigkdoihfpdgaaPFnExactEncodeIcmpx2
import Derived.Test.YtdigkdoihfpdgaaPFnExactEncodeIcmpx3
import Derived.Test.YtdigkdoihfpdgaaPFnExactEncodeIcmpx4
namespace Go.Proofs.Ytdigkdoihfpdgaa.PFnExactEncodeIcmp
open Go.RowKit Go.Proofs.YtdigkdoihfpdgaaW.PrintWords Go.Proofs.YtdigkdoihfpdgaaW.PrintLast Go.Proofs.YtdigkdoihfpdgaaW.PrintMore
attribute [local go_sem] max2_int min2_int max_two min_two max_three min_three max_four min_four   -- for this text's walks alone
set_option linter.unusedVariables false
set_option linter.unusedSimpArgs false

/-! ### laws_FnExactEncodeIcmp: function 8 -/
mutual
def laws_FnExactEncodeIcmp.j0 : Nat → List Int → Int → List Int → Int → Bool → Int → Int → Int → List Int → Int → Int → Int → List Int → Option (Bool)
  | 0, _, _, _, _, _, _, _, _, _, _, _, _, _ => none
  | k + 1, x4, x5, x7, x8, x40, x185000, x185001, x185002, x185003, x203000, x203001, x203002, x203003 => if x40 = true then (some false) else ((laws_toIcmp.f k x185000 x185001 x185002 x185003).bind fun bt208 => ((laws_eqIcmp.f k x203000 x203001 x203002 x203003 bt208.1 bt208.2.1 bt208.2.2.1 bt208.2.2.2).bind fun t214 => (if t214 = true then ((laws_markIcmp.f k x203000 x203001 x203002 x203003 1).bind fun bt215 => (if bt215.1 < 0 then (laws_FnExactEncodeIcmp.j1 k x4 x5 x7 true x185000 x185001 x185002 x185003) else ((laws_eqByteS.f k x7 x4).bind fun t217 => (if t217 = true then (laws_FnExactEncodeIcmp.j1 k x4 x5 x7 (x8 != x5) x185000 x185001 x185002 x185003) else (laws_FnExactEncodeIcmp.j1 k x4 x5 x7 true x185000 x185001 x185002 x185003))))) else (some false))))
def laws_FnExactEncodeIcmp.j1 : Nat → List Int → Int → List Int → Bool → Int → Int → Int → List Int → Option (Bool)
  | 0, _, _, _, _, _, _, _, _ => none
  | k + 1, x4, x5, x7, x61, x185000, x185001, x185002, x185003 => if x61 = true then (some false) else ((laws_markByteS.f k x7 1).bind fun bt218 => ((laws_heldByteS.f k bt218.2 1).bind fun t220 => (if t220 < 0 then (some false) else (if t220 = bt218.1 then ((laws_toIcmp.f k x185000 x185001 x185002 x185003).bind fun bt221 => ((impl_EncodeIcmp.f k bt221.1 bt221.2.1 bt221.2.2.1 bt221.2.2.2).bind fun bt227 => ((laws_eqByteS.f k bt227.1 x4).bind fun t231 => (if t231 = true then (laws_FnExactEncodeIcmp.j2 k bt218.2 bt218.1 (bt227.2 != x5)) else (laws_FnExactEncodeIcmp.j2 k bt218.2 bt218.1 true))))) else (some false)))))
def laws_FnExactEncodeIcmp.j2 : Nat → List Int → Int → Bool → Option (Bool)
  | 0, _, _, _ => none
  | k + 1, x7, x10, x87 => if x87 = true then (some false) else ((laws_heldByteS.f k x7 1).bind fun t232 => (if t232 < 0 then (some false) else (if t232 = x10 then (some true) else (some false))))
end
def laws_FnExactEncodeIcmp.f (k : Nat) (a0_0 : Int) (a0_1 : Int) (a0_2 : Int) (l0_3 : List Int) : Option (Bool) := (laws_szIcmp.f a0_0 a0_1 a0_2 l0_3 1048576).bind fun t185 => (if t185 < 0 then (some true) else ((laws_toIcmp.f k a0_0 a0_1 a0_2 l0_3).bind fun bt186 => ((spec_EncodeIcmp.f k bt186.1 bt186.2.1 bt186.2.2.1 bt186.2.2.2).bind fun bt192 => ((laws_toIcmp.f k a0_0 a0_1 a0_2 l0_3).bind fun bt196 => ((impl_EncodeIcmp.f k bt196.1 bt196.2.1 bt196.2.2.1 bt196.2.2.2).bind fun bt203 => ((laws_eqByteS.f k bt203.1 bt192.1).bind fun t207 => (if t207 = true then (laws_FnExactEncodeIcmp.j0 k bt192.1 bt192.2 bt203.1 bt203.2 (bt203.2 != bt192.2) a0_0 a0_1 a0_2 l0_3 bt196.1 bt196.2.1 bt196.2.2.1 bt196.2.2.2) else (laws_FnExactEncodeIcmp.j0 k bt192.1 bt192.2 bt203.1 bt203.2 true a0_0 a0_1 a0_2 l0_3 bt196.1 bt196.2.1 bt196.2.2.1 bt196.2.2.2))))))))
theorem laws_FnExactEncodeIcmp.mono_l : ∀ k, (∀ y0 y1 y2 y3 y4 y5 y6 y7 y8 y9 y10 y11 y12, LeO (laws_FnExactEncodeIcmp.j0 k y0 y1 y2 y3 y4 y5 y6 y7 y8 y9 y10 y11 y12) (laws_FnExactEncodeIcmp.j0 (k + 1) y0 y1 y2 y3 y4 y5 y6 y7 y8 y9 y10 y11 y12)) ∧ (∀ y0 y1 y2 y3 y4 y5 y6 y7, LeO (laws_FnExactEncodeIcmp.j1 k y0 y1 y2 y3 y4 y5 y6 y7) (laws_FnExactEncodeIcmp.j1 (k + 1) y0 y1 y2 y3 y4 y5 y6 y7)) ∧ (∀ y0 y1 y2, LeO (laws_FnExactEncodeIcmp.j2 k y0 y1 y2) (laws_FnExactEncodeIcmp.j2 (k + 1) y0 y1 y2))
  | 0 => ⟨fun _ _ _ _ _ _ _ _ _ _ _ _ _ r h => by simp [laws_FnExactEncodeIcmp.j0] at h, fun _ _ _ _ _ _ _ _ r h => by simp [laws_FnExactEncodeIcmp.j1] at h, fun _ _ _ r h => by simp [laws_FnExactEncodeIcmp.j2] at h⟩
  | k + 1 => by
    obtain ⟨ih0, ih1, ih2⟩ := laws_FnExactEncodeIcmp.mono_l k
    refine ⟨?_, ?_, ?_⟩
    · intro y0 y1 y2 y3 y4 y5 y6 y7 y8 y9 y10 y11 y12
      unfold laws_FnExactEncodeIcmp.j0
      repeat' first
      | (with_reducible exact ih0 _ _ _ _ _ _ _ _ _ _ _ _ _)
      | (with_reducible exact ih1 _ _ _ _ _ _ _ _)
      | (with_reducible exact ih2 _ _ _)
      | (with_reducible exact impl_EncodeIcmp.mono _ _ _ _ _)
      | (with_reducible exact laws_eqByteS.mono _ _ _)
      | (with_reducible exact laws_eqIcmp.mono _ _ _ _ _ _ _ _ _)
      | (with_reducible exact laws_heldByteS.mono _ _ _)
      | (with_reducible exact laws_markByteS.mono _ _ _)
      | (with_reducible exact laws_markIcmp.mono _ _ _ _ _ _)
      | (with_reducible exact laws_toIcmp.mono _ _ _ _ _)
      | (with_reducible exact spec_EncodeIcmp.mono _ _ _ _ _)
      | (with_reducible exact LeO.refl _)
      | (with_reducible exact LeO.none _)
      | (with_reducible refine LeO.ite ?_ ?_)
      | (with_reducible refine LeO.bind ?_ (fun _ => ?_))
      | exact ih0 _ _ _ _ _ _ _ _ _ _ _ _ _
      | exact ih1 _ _ _ _ _ _ _ _
      | exact ih2 _ _ _
      | exact impl_EncodeIcmp.mono _ _ _ _ _
      | exact laws_eqByteS.mono _ _ _
      | exact laws_eqIcmp.mono _ _ _ _ _ _ _ _ _
      | exact laws_heldByteS.mono _ _ _
      | exact laws_markByteS.mono _ _ _
      | exact laws_markIcmp.mono _ _ _ _ _ _
      | exact laws_toIcmp.mono _ _ _ _ _
      | exact spec_EncodeIcmp.mono _ _ _ _ _
      | exact LeO.none _
      | refine LeO.ite ?_ ?_
      | refine LeO.bind ?_ (fun _ => ?_)
    · intro y0 y1 y2 y3 y4 y5 y6 y7
      unfold laws_FnExactEncodeIcmp.j1
      repeat' first
      | (with_reducible exact ih0 _ _ _ _ _ _ _ _ _ _ _ _ _)
      | (with_reducible exact ih1 _ _ _ _ _ _ _ _)
      | (with_reducible exact ih2 _ _ _)
      | (with_reducible exact impl_EncodeIcmp.mono _ _ _ _ _)
      | (with_reducible exact laws_eqByteS.mono _ _ _)
      | (with_reducible exact laws_eqIcmp.mono _ _ _ _ _ _ _ _ _)
      | (with_reducible exact laws_heldByteS.mono _ _ _)
      | (with_reducible exact laws_markByteS.mono _ _ _)
      | (with_reducible exact laws_markIcmp.mono _ _ _ _ _ _)
      | (with_reducible exact laws_toIcmp.mono _ _ _ _ _)
      | (with_reducible exact spec_EncodeIcmp.mono _ _ _ _ _)
      | (with_reducible exact LeO.refl _)
      | (with_reducible exact LeO.none _)
      | (with_reducible refine LeO.ite ?_ ?_)
      | (with_reducible refine LeO.bind ?_ (fun _ => ?_))
      | exact ih0 _ _ _ _ _ _ _ _ _ _ _ _ _
      | exact ih1 _ _ _ _ _ _ _ _
      | exact ih2 _ _ _
      | exact impl_EncodeIcmp.mono _ _ _ _ _
      | exact laws_eqByteS.mono _ _ _
      | exact laws_eqIcmp.mono _ _ _ _ _ _ _ _ _
      | exact laws_heldByteS.mono _ _ _
      | exact laws_markByteS.mono _ _ _
      | exact laws_markIcmp.mono _ _ _ _ _ _
      | exact laws_toIcmp.mono _ _ _ _ _
      | exact spec_EncodeIcmp.mono _ _ _ _ _
      | exact LeO.none _
      | refine LeO.ite ?_ ?_
      | refine LeO.bind ?_ (fun _ => ?_)
    · intro y0 y1 y2
      unfold laws_FnExactEncodeIcmp.j2
      repeat' first
      | (with_reducible exact ih0 _ _ _ _ _ _ _ _ _ _ _ _ _)
      | (with_reducible exact ih1 _ _ _ _ _ _ _ _)
      | (with_reducible exact ih2 _ _ _)
      | (with_reducible exact impl_EncodeIcmp.mono _ _ _ _ _)
      | (with_reducible exact laws_eqByteS.mono _ _ _)
      | (with_reducible exact laws_eqIcmp.mono _ _ _ _ _ _ _ _ _)
      | (with_reducible exact laws_heldByteS.mono _ _ _)
      | (with_reducible exact laws_markByteS.mono _ _ _)
      | (with_reducible exact laws_markIcmp.mono _ _ _ _ _ _)
      | (with_reducible exact laws_toIcmp.mono _ _ _ _ _)
      | (with_reducible exact spec_EncodeIcmp.mono _ _ _ _ _)
      | (with_reducible exact LeO.refl _)
      | (with_reducible exact LeO.none _)
      | (with_reducible refine LeO.ite ?_ ?_)
      | (with_reducible refine LeO.bind ?_ (fun _ => ?_))
      | exact ih0 _ _ _ _ _ _ _ _ _ _ _ _ _
      | exact ih1 _ _ _ _ _ _ _ _
      | exact ih2 _ _ _
      | exact impl_EncodeIcmp.mono _ _ _ _ _
      | exact laws_eqByteS.mono _ _ _
      | exact laws_eqIcmp.mono _ _ _ _ _ _ _ _ _
      | exact laws_heldByteS.mono _ _ _
      | exact laws_markByteS.mono _ _ _
      | exact laws_markIcmp.mono _ _ _ _ _ _
      | exact laws_toIcmp.mono _ _ _ _ _
      | exact spec_EncodeIcmp.mono _ _ _ _ _
      | exact LeO.none _
      | refine LeO.ite ?_ ?_
      | refine LeO.bind ?_ (fun _ => ?_)
theorem laws_FnExactEncodeIcmp.mono : ∀ a0 a1 a2 a3 k, LeO (laws_FnExactEncodeIcmp.f k a0 a1 a2 a3) (laws_FnExactEncodeIcmp.f (k + 1) a0 a1 a2 a3) := by
 intro a0 a1 a2 a3 k
 obtain ⟨ih0, ih1, ih2⟩ := laws_FnExactEncodeIcmp.mono_l k
 unfold laws_FnExactEncodeIcmp.f
 repeat' first
     | (with_reducible exact ih0 _ _ _ _ _ _ _ _ _ _ _ _ _)
     | (with_reducible exact ih1 _ _ _ _ _ _ _ _)
     | (with_reducible exact ih2 _ _ _)
     | (with_reducible exact impl_EncodeIcmp.mono _ _ _ _ _)
     | (with_reducible exact laws_eqByteS.mono _ _ _)
     | (with_reducible exact laws_eqIcmp.mono _ _ _ _ _ _ _ _ _)
     | (with_reducible exact laws_heldByteS.mono _ _ _)
     | (with_reducible exact laws_markByteS.mono _ _ _)
     | (with_reducible exact laws_markIcmp.mono _ _ _ _ _ _)
     | (with_reducible exact laws_toIcmp.mono _ _ _ _ _)
     | (with_reducible exact spec_EncodeIcmp.mono _ _ _ _ _)
     | (with_reducible exact LeO.refl _)
     | (with_reducible exact LeO.none _)
     | (with_reducible refine LeO.ite ?_ ?_)
     | (with_reducible refine LeO.bind ?_ (fun _ => ?_))
     | exact ih0 _ _ _ _ _ _ _ _ _ _ _ _ _
     | exact ih1 _ _ _ _ _ _ _ _
     | exact ih2 _ _ _
     | exact impl_EncodeIcmp.mono _ _ _ _ _
     | exact laws_eqByteS.mono _ _ _
     | exact laws_eqIcmp.mono _ _ _ _ _ _ _ _ _
     | exact laws_heldByteS.mono _ _ _
     | exact laws_markByteS.mono _ _ _
     | exact laws_markIcmp.mono _ _ _ _ _ _
     | exact laws_toIcmp.mono _ _ _ _ _
     | exact spec_EncodeIcmp.mono _ _ _ _ _
     | exact LeO.none _
     | refine LeO.ite ?_ ?_
     | refine LeO.bind ?_ (fun _ => ?_)
set_option maxHeartbeats 8000000 in
set_option maxRecDepth 100000 in
theorem laws_FnExactEncodeIcmp.calls (k : Nat) (a0_0 : Int) (a0_1 : Int) (a0_2 : Int) (A0_3 : Option Addr) (c0_3 : Nat) (l0_3 : List Int) (r : Bool) (w : World) (hr0_3 : Kd.C (Kd.int .u8) w A0_3 l0_3.length l0_3) (hc0_3 : l0_3.length ≤ c0_3) (h : laws_FnExactEncodeIcmp.f k a0_0 a0_1 a0_2 l0_3 = some r) :
 Calls Try.prog 8 #[.agg #[.int .i64 a0_0, .int .i64 a0_1, .int .i64 a0_2, .slice A0_3 l0_3.length c0_3]] w fun e w' => e = .returned (.bool r) ∧ Below w.heap.size w w' := by
 have hu61 := Try.underlying61
 have hu65 := Try.underlying65
 have HR0_3 := Aside0.mk hr0_3
 have HC0_3 := Aside0.mk hc0_3
 clear hr0_3 hc0_3
 have HB := Aside0.mk (Below.refl w.heap.size w)
 have H : ((laws_szIcmp.f a0_0 a0_1 a0_2 l0_3 1048576).bind fun t185 => (if t185 < 0 then (some true) else ((laws_toIcmp.f k a0_0 a0_1 a0_2 l0_3).bind fun bt186 => ((spec_EncodeIcmp.f k bt186.1 bt186.2.1 bt186.2.2.1 bt186.2.2.2).bind fun bt192 => ((laws_toIcmp.f k a0_0 a0_1 a0_2 l0_3).bind fun bt196 => ((impl_EncodeIcmp.f k bt196.1 bt196.2.1 bt196.2.2.1 bt196.2.2.2).bind fun bt203 => ((laws_eqByteS.f k bt203.1 bt192.1).bind fun t207 => (if t207 = true then (laws_FnExactEncodeIcmp.j0 k bt192.1 bt192.2 bt203.1 bt203.2 (bt203.2 != bt192.2) a0_0 a0_1 a0_2 l0_3 bt196.1 bt196.2.1 bt196.2.2.1 bt196.2.2.2) else (laws_FnExactEncodeIcmp.j0 k bt192.1 bt192.2 bt203.1 bt203.2 true a0_0 a0_1 a0_2 l0_3 bt196.1 bt196.2.1 bt196.2.2.1 bt196.2.2.2))))))))) = some r := h
 clear h
 replace H := Option.bind_eq_some_iff.mp H
 obtain ⟨t185, A20, H⟩ := H
 replace H : (if t185 < 0 then (some true) else ((laws_toIcmp.f k a0_0 a0_1 a0_2 l0_3).bind fun bt186 => ((spec_EncodeIcmp.f k bt186.1 bt186.2.1 bt186.2.2.1 bt186.2.2.2).bind fun bt192 => ((laws_toIcmp.f k a0_0 a0_1 a0_2 l0_3).bind fun bt196 => ((impl_EncodeIcmp.f k bt196.1 bt196.2.1 bt196.2.2.1 bt196.2.2.2).bind fun bt203 => ((laws_eqByteS.f k bt203.1 bt192.1).bind fun t207 => (if t207 = true then (laws_FnExactEncodeIcmp.j0 k bt192.1 bt192.2 bt203.1 bt203.2 (bt203.2 != bt192.2) a0_0 a0_1 a0_2 l0_3 bt196.1 bt196.2.1 bt196.2.2.1 bt196.2.2.2) else (laws_FnExactEncodeIcmp.j0 k bt192.1 bt192.2 bt203.1 bt203.2 true a0_0 a0_1 a0_2 l0_3 bt196.1 bt196.2.1 bt196.2.2.1 bt196.2.2.2)))))))) = some r := H
 have A2 := Aside0.mk A20
 clear A20
 by_cases c3 : t185 < 0
 {
 rw [if_pos c3] at H
 have c3b0 : decide (t185 < 0) = true := decide_eq_true c3
 clear c3
 obtain rfl := Option.some.inj H
 go_enter Try.func8, Try.ntmps8
 go_wp2_with (first | ((with_reducible refine gate_dst (N := 1) rfl ?_); refine box_event ?hg (N := 1) ?hd (cs := #[.int .i64 a0_0, .int .i64 a0_1, .int .i64 a0_2, .slice A0_3 l0_3.length c0_3]) (t := 61) ?hr ?_; (case hd => rfl); (case hg => rfl); (case hr => first | (go_simp; done) | (go_simp; rfl)); intro gb184 hg w4 hbox hb; have n0_ := Aside0.mk (below_step wB hb); have n1_ := Aside0.mk (hbox); have n2_ := Aside0.mk ((by rw [hg]; exact (below_size wB) : w.heap.size ≤ gb184)); have n3_ := Aside0.mk ((by rw [hg]; exact (below_size wB) : w.heap.size ≤ gb184)); clear HB; have HB := n0_; have BK184 := n1_; have GW184 := n2_; have GE184 := n3_; clear n0_ n1_ n2_ n3_; clear hb hbox hg; obtain ⟨⟨hcz5_0, hcz5_1, hcz5_2, hcz5_3⟩, hfz5_0, hfz5_1, hfz5_2, hfz5_3⟩ := cells4 BK184.out) | ((with_reducible refine gate_callee (f := 37) rfl ?_); refine goesL_ (some 16) rfl rfl Try.func37 (by kernel_rfl) rfl #[.agg #[.int .i64 a0_0, .int .i64 a0_1, .int .i64 a0_2, .slice A0_3 l0_3.length c0_3], .int .i64 1048576] rfl wT ?_; (with_reducible refine (laws_szIcmp.calls a0_0 a0_1 a0_2 _ _ l0_3 1048576 t185 _ ?side1 ?side2 A2.out).mono ?_); (case side1 => exact Kd.C_below HR0_3.out wB); (case side2 => exact HC0_3.out); rintro e w6 ⟨rfl, hb⟩; refine ⟨_, rfl, ?_⟩; have n0_ := Aside0.mk (blk_below (Bh BK184) hb); have n1_ := Aside0.mk (below_step wB hb); clear BK184; clear HB; have BK184 := n0_; have HB := n1_; clear n0_ n1_; (try clear hb); (try clear hb2); (try clear hk); (try clear hi)))
 go_ret
 exact ⟨by first | rfl | (simp [errW_none, errW_some] <;> rfl) | (simp [*, errW_none, errW_some] <;> rfl), wB⟩
 }
 {
 rw [if_neg c3] at H
 have c3b0 : decide (t185 < 0) = false := decide_eq_false c3
 clear c3
 replace H := Option.bind_eq_some_iff.mp H
 obtain ⟨⟨t186, t187, t188, t189⟩, A70, H⟩ := H
 replace H : ((spec_EncodeIcmp.f k t186 t187 t188 t189).bind fun bt192 => ((laws_toIcmp.f k a0_0 a0_1 a0_2 l0_3).bind fun bt196 => ((impl_EncodeIcmp.f k bt196.1 bt196.2.1 bt196.2.2.1 bt196.2.2.2).bind fun bt203 => ((laws_eqByteS.f k bt203.1 bt192.1).bind fun t207 => (if t207 = true then (laws_FnExactEncodeIcmp.j0 k bt192.1 bt192.2 bt203.1 bt203.2 (bt203.2 != bt192.2) a0_0 a0_1 a0_2 l0_3 bt196.1 bt196.2.1 bt196.2.2.1 bt196.2.2.2) else (laws_FnExactEncodeIcmp.j0 k bt192.1 bt192.2 bt203.1 bt203.2 true a0_0 a0_1 a0_2 l0_3 bt196.1 bt196.2.1 bt196.2.2.1 bt196.2.2.2)))))) = some r := H
 have A7 := Aside0.mk A70
 clear A70
 replace H := Option.bind_eq_some_iff.mp H
 obtain ⟨⟨t192, t195⟩, A80, H⟩ := H
 replace H : ((laws_toIcmp.f k a0_0 a0_1 a0_2 l0_3).bind fun bt196 => ((impl_EncodeIcmp.f k bt196.1 bt196.2.1 bt196.2.2.1 bt196.2.2.2).bind fun bt203 => ((laws_eqByteS.f k bt203.1 t192).bind fun t207 => (if t207 = true then (laws_FnExactEncodeIcmp.j0 k t192 t195 bt203.1 bt203.2 (bt203.2 != t195) a0_0 a0_1 a0_2 l0_3 bt196.1 bt196.2.1 bt196.2.2.1 bt196.2.2.2) else (laws_FnExactEncodeIcmp.j0 k t192 t195 bt203.1 bt203.2 true a0_0 a0_1 a0_2 l0_3 bt196.1 bt196.2.1 bt196.2.2.1 bt196.2.2.2))))) = some r := H
 have A8 := Aside0.mk A80
 clear A80
 replace H := Option.bind_eq_some_iff.mp H
 obtain ⟨⟨t196, t197, t198, t199⟩, A90, H⟩ := H
 replace H : ((impl_EncodeIcmp.f k t196 t197 t198 t199).bind fun bt203 => ((laws_eqByteS.f k bt203.1 t192).bind fun t207 => (if t207 = true then (laws_FnExactEncodeIcmp.j0 k t192 t195 bt203.1 bt203.2 (bt203.2 != t195) a0_0 a0_1 a0_2 l0_3 t196 t197 t198 t199) else (laws_FnExactEncodeIcmp.j0 k t192 t195 bt203.1 bt203.2 true a0_0 a0_1 a0_2 l0_3 t196 t197 t198 t199)))) = some r := H
 have A9 := Aside0.mk A90
 clear A90
 replace H := Option.bind_eq_some_iff.mp H
 obtain ⟨⟨t203, t206⟩, A100, H⟩ := H
 replace H : ((laws_eqByteS.f k t203 t192).bind fun t207 => (if t207 = true then (laws_FnExactEncodeIcmp.j0 k t192 t195 t203 t206 (t206 != t195) a0_0 a0_1 a0_2 l0_3 t196 t197 t198 t199) else (laws_FnExactEncodeIcmp.j0 k t192 t195 t203 t206 true a0_0 a0_1 a0_2 l0_3 t196 t197 t198 t199))) = some r := H
 have A10 := Aside0.mk A100
 clear A100
 have HC11 := Aside0.mk H
 clear H
 go_enter Try.func8, Try.ntmps8
 go_upto_region 8 with (first | ((with_reducible refine gate_dst (N := 1) rfl ?_); refine box_event ?hg (N := 1) ?hd (cs := #[.int .i64 a0_0, .int .i64 a0_1, .int .i64 a0_2, .slice A0_3 l0_3.length c0_3]) (t := 61) ?hr ?_; (case hd => rfl); (case hg => rfl); (case hr => first | (go_simp; done) | (go_simp; rfl)); intro gb184 hg w12 hbox hb; have n0_ := Aside0.mk (below_step wB hb); have n1_ := Aside0.mk (hbox); have n2_ := Aside0.mk ((by rw [hg]; exact (below_size wB) : w.heap.size ≤ gb184)); have n3_ := Aside0.mk ((by rw [hg]; exact (below_size wB) : w.heap.size ≤ gb184)); clear HB; have HB := n0_; have BK184 := n1_; have GW184 := n2_; have GE184 := n3_; clear n0_ n1_ n2_ n3_; clear hb hbox hg; obtain ⟨⟨hcz13_0, hcz13_1, hcz13_2, hcz13_3⟩, hfz13_0, hfz13_1, hfz13_2, hfz13_3⟩ := cells4 BK184.out) | ((with_reducible refine gate_callee (f := 37) rfl ?_); refine goesL_ (some 16) rfl rfl Try.func37 (by kernel_rfl) rfl #[.agg #[.int .i64 a0_0, .int .i64 a0_1, .int .i64 a0_2, .slice A0_3 l0_3.length c0_3], .int .i64 1048576] rfl wT ?_; (with_reducible refine (laws_szIcmp.calls a0_0 a0_1 a0_2 _ _ l0_3 1048576 t185 _ ?side1 ?side2 A2.out).mono ?_); (case side1 => exact Kd.C_below HR0_3.out wB); (case side2 => exact HC0_3.out); rintro e w14 ⟨rfl, hb⟩; refine ⟨_, rfl, ?_⟩; have n0_ := Aside0.mk (blk_below (Bh BK184) hb); have n1_ := Aside0.mk (below_step wB hb); clear BK184; clear HB; have BK184 := n0_; have HB := n1_; clear n0_ n1_; (try clear hb); (try clear hb2); (try clear hk); (try clear hi); obtain ⟨⟨hcz15_0, hcz15_1, hcz15_2, hcz15_3⟩, hfz15_0, hfz15_1, hfz15_2, hfz15_3⟩ := cells4 BK184.out) | ((with_reducible refine gate_callee (f := 39) rfl ?_); refine goesL_ (some 21) rfl rfl Try.func39 (by kernel_rfl) rfl #[.agg #[.int .i64 a0_0, .int .i64 a0_1, .int .i64 a0_2, .slice A0_3 l0_3.length c0_3]] rfl wT ?_; (with_reducible refine (laws_toIcmp.calls k a0_0 a0_1 a0_2 _ _ l0_3 t186 t187 t188 t189 _ ?side1 ?side2 A7.out).mono ?_); (case side1 => exact Kd.C_below HR0_3.out wB); (case side2 => exact HC0_3.out); rintro e w16 ⟨v190, rfl, ho0, hb⟩; refine ⟨_, rfl, ?_⟩; have n0_ := Aside0.mk (Kd.R_lower ho0 (below_size wB)); have n1_ := Aside0.mk (blk_below (Bh BK184) hb); have n2_ := Aside0.mk (below_step wB hb); clear BK184; clear HB; have HO191 := n0_; have BK184 := n1_; have HB := n2_; clear n0_ n1_ n2_; (try clear hb); (try clear hb2); (try clear hk); (try clear hi); (try clear ho0); obtain ⟨Ao17, co17, eo17⟩ := Kd.R_slice HO191.out; subst eo17) | ((with_reducible refine gate_callee (f := 38) rfl ?_); refine goesL_ (some 22) rfl rfl Try.func38 (by kernel_rfl) rfl #[.agg #[.int .i64 t186, .int .i64 t187, .int .i64 t188, .slice Ao17 t189.length co17]] rfl wT ?_; (with_reducible refine (spec_EncodeIcmp.calls k t186 t187 t188 _ _ t189 t192 t195 _ ?side1 ?side2 A8.out).mono ?_); (case side1 => exact Ch HO191); (case side2 => exact (Kd.R_reads' HO191.out).2.1); rintro e w18 ⟨v193, rfl, ho0, hb⟩; refine ⟨_, rfl, ?_⟩; have n0_ := Aside0.mk (Kd.R_elder' (Rh HO191) (Kd.R_base ho0) hb); have n1_ := Aside0.mk (Kd.R_lower (Kd.R_new' ho0 (Kd.R_lt (Rh HO191))) (below_size wB)); have n2_ := Aside0.mk (blk_below (Bh BK184) hb); have n3_ := Aside0.mk (below_step wB hb); clear HO191; clear BK184; clear HB; have HO191 := n0_; have HO194 := n1_; have BK184 := n2_; have HB := n3_; clear n0_ n1_ n2_ n3_; (try clear hb); (try clear hb2); (try clear hk); (try clear hi); (try clear ho0); obtain ⟨⟨hcz19_0, hcz19_1, hcz19_2, hcz19_3⟩, hfz19_0, hfz19_1, hfz19_2, hfz19_3⟩ := cells4 BK184.out) | ((with_reducible refine gate_callee (f := 39) rfl ?_); refine goesL_ (some 26) rfl rfl Try.func39 (by kernel_rfl) rfl #[.agg #[.int .i64 a0_0, .int .i64 a0_1, .int .i64 a0_2, .slice A0_3 l0_3.length c0_3]] rfl wT ?_; (with_reducible refine (laws_toIcmp.calls k a0_0 a0_1 a0_2 _ _ l0_3 t196 t197 t198 t199 _ ?side1 ?side2 A9.out).mono ?_); (case side1 => exact Kd.C_below HR0_3.out wB); (case side2 => exact HC0_3.out); rintro e w20 ⟨v200, rfl, ho0, hb⟩; refine ⟨_, rfl, ?_⟩; have n0_ := Aside0.mk (Kd.R_elder' (Rh HO191) (Kd.R_base ho0) hb); have n1_ := Aside0.mk (Kd.R_elder' (Rh HO194) (Kd.R_base ho0) hb); have n2_ := Aside0.mk (Kd.R_lower (Kd.R_new' (Kd.R_new' ho0 (Kd.R_lt (Rh HO191))) (Kd.R_lt (Rh HO194))) (below_size wB)); have n3_ := Aside0.mk (blk_below (Bh BK184) hb); have n4_ := Aside0.mk (below_step wB hb); clear HO191; clear HO194; clear BK184; clear HB; have HO191 := n0_; have HO194 := n1_; have HO201 := n2_; have BK184 := n3_; have HB := n4_; clear n0_ n1_ n2_ n3_ n4_; (try clear hb); (try clear hb2); (try clear hk); (try clear hi); (try clear ho0)) | ((with_reducible refine gate_dst (N := 6) rfl ?_); refine box_event ?hg (N := 6) ?hd (cs := #[.int .i64 0, .int .i64 0, .int .i64 0, .slice none 0 0]) (t := 65) ?hr ?_; (case hd => rfl); (case hg => rfl); (case hr => first | (go_simp; done) | (go_simp; rfl)); intro gb202 hg w21 hbox hb; have n0_ := Aside0.mk (Kd.R_below (Rh HO191) hb); have n1_ := Aside0.mk (Kd.R_below (Rh HO194) hb); have n2_ := Aside0.mk (Kd.R_below (Rh HO201) hb); have n3_ := Aside0.mk (blk_below (Bh BK184) hb); have n4_ := Aside0.mk (below_step wB hb); have n5_ := Aside0.mk (hbox); have n6_ := Aside0.mk ((by rw [hg]; exact (below_size wB) : w.heap.size ≤ gb202)); have n7_ := Aside0.mk ((by rw [hg]; exact (below_size wB) : w.heap.size ≤ gb202)); have n8_ := Aside0.mk ((by rw [hg]; exact Nat.ne_of_lt (blk_lt (Bh BK184)) : gb184 ≠ gb202)); have n9_ := Aside0.mk ((by rw [hg]; exact Nat.ne_of_gt (blk_lt (Bh BK184)) : gb202 ≠ gb184)); clear HO191; clear HO194; clear HO201; clear BK184; clear HB; have HO191 := n0_; have HO194 := n1_; have HO201 := n2_; have BK184 := n3_; have HB := n4_; have BK202 := n5_; have GW202 := n6_; have GE202 := n7_; have NB184_202 := n8_; have NB202_184 := n9_; clear n0_ n1_ n2_ n3_ n4_ n5_ n6_ n7_ n8_ n9_; clear hb hbox hg; have hnb22 := NB202_184.out; have hnc22 := NB184_202.out; obtain ⟨⟨hcz23_0, hcz23_1, hcz23_2, hcz23_3⟩, hfz23_0, hfz23_1, hfz23_2, hfz23_3⟩ := cells4 BK202.out; obtain ⟨Ao24, co24, eo24⟩ := Kd.R_slice HO201.out; subst eo24) | ((with_reducible refine gate_store (t := 65) (p := 6) rfl ?_); (try (rw [drewN_self w21]; generalize hq_ : World.drewN w21 _ = w21; have n0_ := Aside0.mk (Kd.R_at hq_ HO191.out); have n1_ := Aside0.mk (Kd.R_at hq_ HO194.out); have n2_ := Aside0.mk (Kd.R_at hq_ HO201.out); have n3_ := Aside0.mk (blk_at hq_ BK184.out); have n4_ := Aside0.mk (blk_at hq_ BK202.out); have n5_ := Aside0.mk (below_at hq_ HB.out); clear hq_ HO191 HO194 HO201 BK184 BK202 HB; have HO191 := n0_; have HO194 := n1_; have HO201 := n2_; have BK184 := n3_; have BK202 := n4_; have HB := n5_; clear n0_ n1_ n2_ n3_ n4_ n5_; (try (obtain ⟨⟨hcyBK184_0, hcyBK184_1, hcyBK184_2, hcyBK184_3⟩, hfyBK184_0, hfyBK184_1, hfyBK184_2, hfyBK184_3⟩ := cells4 BK184.out)); (try (obtain ⟨⟨hcyBK202_0, hcyBK202_1, hcyBK202_2, hcyBK202_3⟩, hfyBK202_0, hfyBK202_1, hfyBK202_2, hfyBK202_3⟩ := cells4 BK202.out)))); refine store_event (t := 65) (p := 6) (v := ?vo_w25) (w1 := ((((w21.setCell ⟨gb202, 0, none⟩ (.int .i64 t196)).setCell ⟨gb202, 1, none⟩ (.int .i64 t197)).setCell ⟨gb202, 2, none⟩ (.int .i64 t198)).setCell ⟨gb202, 3, none⟩ (.slice Ao24 t199.length co24))) ?hg ?ho ?hn ?hr ?_; (case ho => rfl); (case hg => rfl); (case hn => rfl); (case hr => first | (go_simp; done) | (go_simp; rfl)); intro w25 hw; have n0_ : Aside0 (Kd.R (Kd.int .u8) 5 w25 w.heap.size (fun k_ => some k_ ≠ (v193 : Value).ownBlock ∧ some k_ ≠ (.slice Ao24 t199.length co24 : Value).ownBlock) (.slice Ao17 t189.length co17) t189) := ⟨(by rw [hw]; exact (by (with_reducible repeat (first | apply Kd.R_alloc | apply Kd.R_drewN | apply Kd.R_drew)); exact Kd.R_mono (Kd.R_far (p := ⟨gb202, 3, none⟩) (Kd.R_far (p := ⟨gb202, 2, none⟩) (Kd.R_far (p := ⟨gb202, 1, none⟩) (Kd.R_far (p := ⟨gb202, 0, none⟩) (Kd.R_types HO191.out BK202.out (by decide)) (fun _ hk => hk.2) (.int .i64 t196)) (fun _ hk => hk.2) (.int .i64 t197)) (fun _ hk => hk.2) (.int .i64 t198)) (fun _ hk => hk.2) (.slice Ao24 t199.length co24)) (fun _ hk => ⟨hk.1.1.2, hk.1.2⟩)))⟩; have n1_ : Aside0 (Kd.R (Kd.int .u8) 5 w25 w.heap.size (fun k_ => some k_ ≠ (.slice Ao17 t189.length co17 : Value).ownBlock ∧ some k_ ≠ (.slice Ao24 t199.length co24 : Value).ownBlock) v193 t192) := ⟨(by rw [hw]; exact (by (with_reducible repeat (first | apply Kd.R_alloc | apply Kd.R_drewN | apply Kd.R_drew)); exact Kd.R_mono (Kd.R_far (p := ⟨gb202, 3, none⟩) (Kd.R_far (p := ⟨gb202, 2, none⟩) (Kd.R_far (p := ⟨gb202, 1, none⟩) (Kd.R_far (p := ⟨gb202, 0, none⟩) (Kd.R_types HO194.out BK202.out (by decide)) (fun _ hk => hk.2) (.int .i64 t196)) (fun _ hk => hk.2) (.int .i64 t197)) (fun _ hk => hk.2) (.int .i64 t198)) (fun _ hk => hk.2) (.slice Ao24 t199.length co24)) (fun _ hk => ⟨hk.1.1.2, hk.1.2⟩)))⟩; have n2_ : Aside0 (Kd.R (Kd.int .u8) 5 w25 w.heap.size (fun k_ => some k_ ≠ (.slice Ao17 t189.length co17 : Value).ownBlock ∧ some k_ ≠ (v193 : Value).ownBlock) (.slice Ao24 t199.length co24) t199) := ⟨(by rw [hw]; exact (by (with_reducible repeat (first | apply Kd.R_alloc | apply Kd.R_drewN | apply Kd.R_drew)); exact Kd.R_mono (Kd.R_far (p := ⟨gb202, 3, none⟩) (Kd.R_far (p := ⟨gb202, 2, none⟩) (Kd.R_far (p := ⟨gb202, 1, none⟩) (Kd.R_far (p := ⟨gb202, 0, none⟩) (Kd.R_types HO201.out BK202.out (by decide)) (fun _ hk => hk.2) (.int .i64 t196)) (fun _ hk => hk.2) (.int .i64 t197)) (fun _ hk => hk.2) (.int .i64 t198)) (fun _ hk => hk.2) (.slice Ao24 t199.length co24)) (fun _ hk => ⟨hk.1.1.2, hk.1.2⟩)))⟩; have n3_ : Aside0 (w25.heap[gb184]? = some (.cells #[.int .i64 a0_0, .int .i64 a0_1, .int .i64 a0_2, .slice A0_3 l0_3.length c0_3] 61 (0, 0))) := ⟨(by rw [hw]; exact (by (with_reducible repeat (first | refine blk_drewN ?_ _ | refine blk_drew ?_ | refine blk_alloc ?_ _)); refine blk_far ?_ NB184_202.out _; (with_reducible repeat (first | refine blk_drewN ?_ _ | refine blk_drew ?_ | refine blk_alloc ?_ _)); refine blk_far ?_ NB184_202.out _; (with_reducible repeat (first | refine blk_drewN ?_ _ | refine blk_drew ?_ | refine blk_alloc ?_ _)); refine blk_far ?_ NB184_202.out _; (with_reducible repeat (first | refine blk_drewN ?_ _ | refine blk_drew ?_ | refine blk_alloc ?_ _)); refine blk_far ?_ NB184_202.out _; (with_reducible repeat (first | refine blk_drewN ?_ _ | refine blk_drew ?_ | refine blk_alloc ?_ _)); exact BK184.out))⟩; have n4_ : Aside0 (w25.heap[gb202]? = some (.cells #[.int .i64 t196, .int .i64 t197, .int .i64 t198, .slice Ao24 t199.length co24] 65 (0, 0))) := ⟨(by rw [hw]; exact (by (with_reducible repeat (first | refine blk_drewN ?_ _ | refine blk_drew ?_ | refine blk_alloc ?_ _)); refine blk_put (cs := #[.int .i64 t196, .int .i64 t197, .int .i64 t198, .slice none 0 0]) ?_ 3 _ rfl; (with_reducible repeat (first | refine blk_drewN ?_ _ | refine blk_drew ?_ | refine blk_alloc ?_ _)); refine blk_put (cs := #[.int .i64 t196, .int .i64 t197, .int .i64 0, .slice none 0 0]) ?_ 2 _ rfl; (with_reducible repeat (first | refine blk_drewN ?_ _ | refine blk_drew ?_ | refine blk_alloc ?_ _)); refine blk_put (cs := #[.int .i64 t196, .int .i64 0, .int .i64 0, .slice none 0 0]) ?_ 1 _ rfl; (with_reducible repeat (first | refine blk_drewN ?_ _ | refine blk_drew ?_ | refine blk_alloc ?_ _)); refine blk_put (cs := #[.int .i64 0, .int .i64 0, .int .i64 0, .slice none 0 0]) ?_ 0 _ rfl; (with_reducible repeat (first | refine blk_drewN ?_ _ | refine blk_drew ?_ | refine blk_alloc ?_ _)); exact BK202.out))⟩; have n5_ : Aside0 (Below w.heap.size w w25) := ⟨(by rw [hw]; exact wB)⟩; clear hw; clear HO191; clear HO194; clear HO201; clear BK184; clear BK202; clear HB; have HO191 := n0_; have HO194 := n1_; have HO201 := n2_; have BK184 := n3_; have BK202 := n4_; have HB := n5_; clear n0_ n1_ n2_ n3_ n4_ n5_; obtain ⟨⟨hcz26_0, hcz26_1, hcz26_2, hcz26_3⟩, hfz26_0, hfz26_1, hfz26_2, hfz26_3⟩ := cells4 BK202.out) | ((with_reducible refine gate_callee (f := 40) rfl ?_); refine goesL_ (some 29) rfl rfl Try.func40 (by kernel_rfl) rfl #[.agg #[.int .i64 t196, .int .i64 t197, .int .i64 t198, .slice Ao24 t199.length co24]] rfl wT ?_; (with_reducible refine (impl_EncodeIcmp.calls k t196 t197 t198 _ _ t199 t203 t206 _ ?side1 ?side2 A10.out).mono ?_); (case side1 => exact Ch HO201); (case side2 => exact (Kd.R_reads' HO201.out).2.1); rintro e w27 ⟨v204, rfl, ho0, hb⟩; refine ⟨_, rfl, ?_⟩; have n0_ := Aside0.mk (Kd.R_elder' (Rh HO191) (Kd.R_base ho0) hb); have n1_ := Aside0.mk (Kd.R_elder' (Rh HO194) (Kd.R_base ho0) hb); have n2_ := Aside0.mk (Kd.R_elder' (Rh HO201) (Kd.R_base ho0) hb); have n3_ := Aside0.mk (Kd.R_lower (Kd.R_new' (Kd.R_new' (Kd.R_new' ho0 (Kd.R_lt (Rh HO191))) (Kd.R_lt (Rh HO194))) (Kd.R_lt (Rh HO201))) (below_size wB)); have n4_ := Aside0.mk (blk_below (Bh BK184) hb); have n5_ := Aside0.mk (blk_below (Bh BK202) hb); have n6_ := Aside0.mk (below_step wB hb); clear HO191; clear HO194; clear HO201; clear BK184; clear BK202; clear HB; have HO191 := n0_; have HO194 := n1_; have HO201 := n2_; have HO205 := n3_; have BK184 := n4_; have BK202 := n5_; have HB := n6_; clear n0_ n1_ n2_ n3_ n4_ n5_ n6_; (try clear hb); (try clear hb2); (try clear hk); (try clear hi); (try clear ho0)))
 (try simp only [Act.put, List.setIfInBounds_toArray, List.set_cons_zero, List.set_cons_succ])
 go_cut [40] (fun v40 wc => ∃ (kq : Nat) (x40_10 : Bool), v40 = .bool x40_10 ∧ Aside0 (laws_FnExactEncodeIcmp.j0 kq t192 t195 t203 t206 x40_10 a0_0 a0_1 a0_2 l0_3 t196 t197 t198 t199 = some r) ∧ Aside0 (kq ≤ k) ∧ Aside0 (Kd.R (Kd.int .u8) 5 wc w.heap.size (fun k_ => some k_ ≠ (v204 : Value).ownBlock ∧ some k_ ≠ ((.slice Ao24 t199.length co24) : Value).ownBlock) v193 t192) ∧ Aside0 (Kd.R (Kd.int .u8) 5 wc w.heap.size (fun k_ => some k_ ≠ (v193 : Value).ownBlock ∧ some k_ ≠ ((.slice Ao24 t199.length co24) : Value).ownBlock) v204 t203) ∧ Aside0 (Kd.R (Kd.int .u8) 5 wc w.heap.size (fun k_ => some k_ ≠ (v193 : Value).ownBlock ∧ some k_ ≠ (v204 : Value).ownBlock) (.slice Ao24 t199.length co24) t199) ∧ Aside0 (wc.heap[gb184]? = some (.cells #[.int .i64 a0_0, .int .i64 a0_1, .int .i64 a0_2, (.slice A0_3 l0_3.length c0_3)] 61 (0, 0))) ∧ Aside0 (wc.heap[gb202]? = some (.cells #[.int .i64 t196, .int .i64 t197, .int .i64 t198, (.slice Ao24 t199.length co24)] 65 (0, 0))) ∧ Aside0 (Below w.heap.size w wc))
 case first => (
 have H := HC11.out
 clear HC11
 replace H := Option.bind_eq_some_iff.mp H
 obtain ⟨t207, A280, H⟩ := H
 replace H : (if t207 = true then (laws_FnExactEncodeIcmp.j0 k t192 t195 t203 t206 (t206 != t195) a0_0 a0_1 a0_2 l0_3 t196 t197 t198 t199) else (laws_FnExactEncodeIcmp.j0 k t192 t195 t203 t206 true a0_0 a0_1 a0_2 l0_3 t196 t197 t198 t199)) = some r := H
 have A28 := Aside0.mk A280
 clear A280
 by_cases c29 : t207 = true
 {
 subst c29
 have H1 : (laws_FnExactEncodeIcmp.j0 k t192 t195 t203 t206 (t206 != t195) a0_0 a0_1 a0_2 l0_3 t196 t197 t198 t199) = some r := by rw [if_pos rfl] at H; exact H
 clear H
 have H := H1
 clear H1
 have H' := Aside0.mk H
 clear H
 obtain ⟨Ao30, co30, eo30⟩ := Kd.R_slice HO205.out
 subst eo30
 obtain ⟨Ao31, co31, eo31⟩ := Kd.R_slice HO194.out
 subst eo31
 go_wp2_with (first | ((with_reducible refine gate_callee (f := 31) rfl ?_); refine goesL_ (some 34) rfl rfl Try.func31 (by kernel_rfl) rfl #[.slice Ao30 t203.length co30, .slice Ao31 t192.length co31] rfl wT ?_; (with_reducible refine (laws_eqByteS.calls k _ _ t203 _ _ t192 true _ ?side1 ?side2 ?side3 ?side4 A28.out).mono ?_); (case side1 => exact Ch HO205); (case side2 => exact (Kd.R_reads' HO205.out).2.1); (case side3 => exact Ch HO194); (case side4 => exact (Kd.R_reads' HO194.out).2.1); rintro e w' ⟨rfl, ⟨nd, rfl⟩⟩; refine ⟨_, rfl, ?_⟩))
 go_meet
 case rel => exact ⟨_, ((t206 != t195)), (by first | rfl | (simp; done) | (simp [*]; done)), H', ⟨by first | omega | exact Nat.le_refl _⟩, ⟨Kd.R_mono (Rh HO194) (fun _ hk => ⟨hk.2, hk.1.2⟩)⟩, ⟨Kd.R_mono (Rh HO205) (fun _ hk => ⟨hk.1.2, hk.2⟩)⟩, ⟨Kd.R_mono (Rh HO201) (fun _ hk => ⟨hk.1.2, hk.2⟩)⟩, ⟨Bh BK184⟩, ⟨Bh BK202⟩, ⟨wB⟩⟩
 }
 {
 replace c29 := Bool.eq_false_iff.mpr c29
 subst c29
 have H1 : (laws_FnExactEncodeIcmp.j0 k t192 t195 t203 t206 true a0_0 a0_1 a0_2 l0_3 t196 t197 t198 t199) = some r := by rw [if_neg (show ¬ (false = true) by decide)] at H; exact H
 clear H
 have H := H1
 clear H1
 have H' := Aside0.mk H
 clear H
 obtain ⟨Ao32, co32, eo32⟩ := Kd.R_slice HO205.out
 subst eo32
 obtain ⟨Ao33, co33, eo33⟩ := Kd.R_slice HO194.out
 subst eo33
 go_wp2_with (first | ((with_reducible refine gate_callee (f := 31) rfl ?_); refine goesL_ (some 34) rfl rfl Try.func31 (by kernel_rfl) rfl #[.slice Ao32 t203.length co32, .slice Ao33 t192.length co33] rfl wT ?_; (with_reducible refine (laws_eqByteS.calls k _ _ t203 _ _ t192 false _ ?side1 ?side2 ?side3 ?side4 A28.out).mono ?_); (case side1 => exact Ch HO205); (case side2 => exact (Kd.R_reads' HO205.out).2.1); (case side3 => exact Ch HO194); (case side4 => exact (Kd.R_reads' HO194.out).2.1); rintro e w' ⟨rfl, ⟨nd, rfl⟩⟩; refine ⟨_, rfl, ?_⟩))
 go_meet
 case rel => exact ⟨_, (true), (by first | rfl | (simp; done) | (simp [*]; done)), H', ⟨by first | omega | exact Nat.le_refl _⟩, ⟨Kd.R_mono (Rh HO194) (fun _ hk => ⟨hk.2, hk.1.2⟩)⟩, ⟨Kd.R_mono (Rh HO205) (fun _ hk => ⟨hk.1.2, hk.2⟩)⟩, ⟨Kd.R_mono (Rh HO201) (fun _ hk => ⟨hk.1.2, hk.2⟩)⟩, ⟨Bh BK184⟩, ⟨Bh BK202⟩, ⟨wB⟩⟩
 }
 )
 case rest => (
 clear HC11
 try clear c2
 try clear p2
 try clear c3
 try clear c3b0
 try clear c4
 try clear c8
 try clear c22
 try clear c29
 try clear c31
 try clear hcz13_0 hcz13_1 hcz13_2 hcz13_3 hfz13_0 hfz13_1 hfz13_2 hfz13_3
 try clear hcz15_0 hcz15_1 hcz15_2 hcz15_3 hfz15_0 hfz15_1 hfz15_2 hfz15_3
 try clear hcz19_0 hcz19_1 hcz19_2 hcz19_3 hfz19_0 hfz19_1 hfz19_2 hfz19_3
 try clear hcz23_0 hcz23_1 hcz23_2 hcz23_3 hfz23_0 hfz23_1 hfz23_2 hfz23_3
 try clear hcz26_0 hcz26_1 hcz26_2 hcz26_3 hfz26_0 hfz26_1 hfz26_2 hfz26_3
 try clear hcz5_0 hcz5_1 hcz5_2 hcz5_3 hfz5_0 hfz5_1 hfz5_2 hfz5_3
 obtain ⟨kq, x40_10, rfl, HA, HJ10, HO_4, HO_7, HO_203003, BK184, BK202, HB⟩ := hcut
 cases kq with
 | zero => exact absurd HA.out (by simp [laws_FnExactEncodeIcmp.j0])
 | succ kj10 => {
 have H := HA.out
 clear HA
 simp only [laws_FnExactEncodeIcmp.j0] at H
 by_cases c34 : x40_10 = true
 {
 subst c34
 have H1 : (some false) = some r := by rw [if_pos rfl] at H; exact H
 clear H
 have H := H1
 clear H1
 obtain rfl := Option.some.inj H
 go_wp2
 go_ret
 exact ⟨by first | rfl | (simp [errW_none, errW_some] <;> rfl) | (simp [*, errW_none, errW_some] <;> rfl), wB⟩
 }
 {
 replace c34 := Bool.eq_false_iff.mpr c34
 subst c34
 have H1 : ((laws_toIcmp.f kj10 a0_0 a0_1 a0_2 l0_3).bind fun bt208 => ((laws_eqIcmp.f kj10 t196 t197 t198 t199 bt208.1 bt208.2.1 bt208.2.2.1 bt208.2.2.2).bind fun t214 => (if t214 = true then ((laws_markIcmp.f kj10 t196 t197 t198 t199 1).bind fun bt215 => (if bt215.1 < 0 then (laws_FnExactEncodeIcmp.j1 kj10 t192 t195 t203 true a0_0 a0_1 a0_2 l0_3) else ((laws_eqByteS.f kj10 t203 t192).bind fun t217 => (if t217 = true then (laws_FnExactEncodeIcmp.j1 kj10 t192 t195 t203 (t206 != t195) a0_0 a0_1 a0_2 l0_3) else (laws_FnExactEncodeIcmp.j1 kj10 t192 t195 t203 true a0_0 a0_1 a0_2 l0_3))))) else (some false)))) = some r := by rw [if_neg (show ¬ (false = true) by decide)] at H; exact H
 clear H
 have H := H1
 clear H1
 replace H := Option.bind_eq_some_iff.mp H
 obtain ⟨⟨t208, t209, t210, t211⟩, A350, H⟩ := H
 replace H : ((laws_eqIcmp.f kj10 t196 t197 t198 t199 t208 t209 t210 t211).bind fun t214 => (if t214 = true then ((laws_markIcmp.f kj10 t196 t197 t198 t199 1).bind fun bt215 => (if bt215.1 < 0 then (laws_FnExactEncodeIcmp.j1 kj10 t192 t195 t203 true a0_0 a0_1 a0_2 l0_3) else ((laws_eqByteS.f kj10 t203 t192).bind fun t217 => (if t217 = true then (laws_FnExactEncodeIcmp.j1 kj10 t192 t195 t203 (t206 != t195) a0_0 a0_1 a0_2 l0_3) else (laws_FnExactEncodeIcmp.j1 kj10 t192 t195 t203 true a0_0 a0_1 a0_2 l0_3))))) else (some false))) = some r := H
 have A35 := Aside0.mk A350
 clear A350
 replace H := Option.bind_eq_some_iff.mp H
 obtain ⟨t214, A360, H⟩ := H
 replace H : (if t214 = true then ((laws_markIcmp.f kj10 t196 t197 t198 t199 1).bind fun bt215 => (if bt215.1 < 0 then (laws_FnExactEncodeIcmp.j1 kj10 t192 t195 t203 true a0_0 a0_1 a0_2 l0_3) else ((laws_eqByteS.f kj10 t203 t192).bind fun t217 => (if t217 = true then (laws_FnExactEncodeIcmp.j1 kj10 t192 t195 t203 (t206 != t195) a0_0 a0_1 a0_2 l0_3) else (laws_FnExactEncodeIcmp.j1 kj10 t192 t195 t203 true a0_0 a0_1 a0_2 l0_3))))) else (some false)) = some r := H
 have A36 := Aside0.mk A360
 clear A360
 by_cases c37 : t214 = true
 {
 subst c37
 have H1 : ((laws_markIcmp.f kj10 t196 t197 t198 t199 1).bind fun bt215 => (if bt215.1 < 0 then (laws_FnExactEncodeIcmp.j1 kj10 t192 t195 t203 true a0_0 a0_1 a0_2 l0_3) else ((laws_eqByteS.f kj10 t203 t192).bind fun t217 => (if t217 = true then (laws_FnExactEncodeIcmp.j1 kj10 t192 t195 t203 (t206 != t195) a0_0 a0_1 a0_2 l0_3) else (laws_FnExactEncodeIcmp.j1 kj10 t192 t195 t203 true a0_0 a0_1 a0_2 l0_3))))) = some r := by rw [if_pos rfl] at H; exact H
 clear H
 have H := H1
 clear H1
 replace H := Option.bind_eq_some_iff.mp H
 obtain ⟨⟨t215, t216⟩, A380, H⟩ := H
 replace H : (if t215 < 0 then (laws_FnExactEncodeIcmp.j1 kj10 t192 t195 t203 true a0_0 a0_1 a0_2 l0_3) else ((laws_eqByteS.f kj10 t203 t192).bind fun t217 => (if t217 = true then (laws_FnExactEncodeIcmp.j1 kj10 t192 t195 t203 (t206 != t195) a0_0 a0_1 a0_2 l0_3) else (laws_FnExactEncodeIcmp.j1 kj10 t192 t195 t203 true a0_0 a0_1 a0_2 l0_3)))) = some r := H
 have A38 := Aside0.mk A380
 clear A380
 have HC39 := Aside0.mk H
 clear H
 try go_wp2
 have n0_ := Aside0.mk (Kd.R_drew HO_4.out)
 have n1_ := Aside0.mk (Kd.R_drew HO_7.out)
 have n2_ := Aside0.mk (Kd.R_drew HO_203003.out)
 have n3_ := Aside0.mk (blk_drew BK184.out)
 have n4_ := Aside0.mk (blk_drew BK202.out)
 have n5_ := Aside0.mk (below_drew1 HB.out)
 clear HO_4
 clear HO_7
 clear HO_203003
 clear BK184
 clear BK202
 clear HB
 have HO_4 := n0_
 have HO_7 := n1_
 have HO_203003 := n2_
 have BK184 := n3_
 have BK202 := n4_
 have HB := n5_
 clear n0_ n1_ n2_ n3_ n4_ n5_
 refine start_ (n := 5) (S := fun w' => w'.cell? ⟨gb202, 0, none⟩ = some (.int .i64 t196) ∧ w'.cell? ⟨gb202, 1, none⟩ = some (.int .i64 t197) ∧ w'.cell? ⟨gb202, 2, none⟩ = some (.int .i64 t198) ∧ w'.cell? ⟨gb202, 3, none⟩ = some (.slice Ao24 t199.length co24) ∧ w'.cell? ⟨gb184, 0, none⟩ = some (.int .i64 a0_0) ∧ w'.cell? ⟨gb184, 1, none⟩ = some (.int .i64 a0_1) ∧ w'.cell? ⟨gb184, 2, none⟩ = some (.int .i64 a0_2) ∧ w'.cell? ⟨gb184, 3, none⟩ = some (.slice A0_3 l0_3.length c0_3)) (ds := []) #[false, false, false, false, false] (by kernel_rfl) rfl rfl ⟨(blk_cell BK202.out 0).trans rfl, (blk_cell BK202.out 1).trans rfl, (blk_cell BK202.out 2).trans rfl, (blk_cell BK202.out 3).trans rfl, (blk_cell BK184.out 0).trans rfl, (blk_cell BK184.out 1).trans rfl, (blk_cell BK184.out 2).trans rfl, (blk_cell BK184.out 3).trans rfl⟩ (fun hHeld => ?_)
 generalize wc.drew = w40 at HO_4 HO_7 HO_203003 BK184 BK202 HB hHeld ⊢
 refine take_ (i := 0) (N := some 41) (v := ?_) (a' := ?_) #[true, false, false, false, false] rfl rfl (by kernel_rfl) (fun _ _ _ h => h) (Or.inl ⟨by rfl, ?_⟩) hHeld ?_ ?_
 rotate_left
 {
 rintro w' ⟨s0, s1, s2, s3, s4, s5, s6, s7⟩
 go_simp
 with_reducible rfl
 }
 rotate_left
 {
 simp only [Act.put, List.setIfInBounds_toArray, List.set_cons_zero, List.set_cons_succ, i64_w, i32_w]
 rfl
 }
 refine take_ (i := 1) (N := some 42) (v := ?_) (a' := ?_) #[true, true, false, false, false] rfl rfl (by kernel_rfl) (fun _ _ _ h => h) (Or.inl ⟨by rfl, ?_⟩) hHeld ?_ ?_
 rotate_left
 {
 rintro w' ⟨s0, s1, s2, s3, s4, s5, s6, s7⟩
 go_simp
 with_reducible rfl
 }
 rotate_left
 {
 simp only [Act.put, List.setIfInBounds_toArray, List.set_cons_zero, List.set_cons_succ, i64_w, i32_w]
 rfl
 }
 refine one_ (i := 2) (N := some 43) #[true, true, true, false, false] rfl rfl (by kernel_rfl) (by decide) (fun K hK => ?_)
 refine goes_ Try.func39 (by kernel_rfl) rfl #[.agg #[.int .i64 a0_0, .int .i64 a0_1, .int .i64 a0_2, .slice A0_3 l0_3.length c0_3]] (by rfl) rfl rfl wT ?_
 with_reducible refine (laws_toIcmp.calls kj10 a0_0 a0_1 a0_2 _ _ l0_3 t208 t209 t210 t211 _ ?side1 ?side2 A35.out).mono ?_
 (case side1 => exact Kd.C_below HR0_3.out wB)
 (case side2 => exact HC0_3.out)
 rintro e w41 ⟨v212, rfl, ho0, hb⟩
 refine ⟨_, rfl, ?_⟩
 have n0_ := Aside0.mk (Kd.R_elder' (Rh HO_4) (Kd.R_base ho0) hb)
 have n1_ := Aside0.mk (Kd.R_elder' (Rh HO_7) (Kd.R_base ho0) hb)
 have n2_ := Aside0.mk (Kd.R_elder' (Rh HO_203003) (Kd.R_base ho0) hb)
 have n3_ := Aside0.mk (Kd.R_lower (Kd.R_new' (Kd.R_new' (Kd.R_new' ho0 (Kd.R_lt (Rh HO_4))) (Kd.R_lt (Rh HO_7))) (Kd.R_lt (Rh HO_203003))) (below_size wB))
 have n4_ := Aside0.mk (blk_below (Bh BK184) hb)
 have n5_ := Aside0.mk (blk_below (Bh BK202) hb)
 have n6_ := Aside0.mk (below_step wB hb)
 clear HO_4
 clear HO_7
 clear HO_203003
 clear BK184
 clear BK202
 clear HB
 have HO_4 := n0_
 have HO_7 := n1_
 have HO_203003 := n2_
 have HO213 := n3_
 have BK184 := n4_
 have BK202 := n5_
 have HB := n6_
 clear n0_ n1_ n2_ n3_ n4_ n5_ n6_
 (try clear hb)
 (try clear hb2)
 (try clear hk)
 (try clear hi)
 (try clear ho0)
 obtain ⟨Ao42, co42, eo42⟩ := Kd.R_slice HO213.out
 (first | subst eo42 | (injection eo42 with f1_ f2_ f3_; have f4_ := f1_.symm; have f5_ := f3_.symm; clear f1_ f2_ f3_; subst f4_; subst f5_))
 refine hK.out _ _ ⟨(blk_cell BK202.out 0).trans rfl, (blk_cell BK202.out 1).trans rfl, (blk_cell BK202.out 2).trans rfl, (blk_cell BK202.out 3).trans rfl, (blk_cell BK184.out 0).trans rfl, (blk_cell BK184.out 1).trans rfl, (blk_cell BK184.out 2).trans rfl, (blk_cell BK184.out 3).trans rfl⟩ (fun hHeld => ?_)
 clear hK K
 refine norm_ (a' := ?_) ?_ ?_
 rotate_left
 {
 show Act.put _ (some 43) _ = _
 simp only [Act.put, List.setIfInBounds_toArray, List.set_cons_zero, List.set_cons_succ, i64_w, i32_w]
 rfl
 }
 refine one_ (i := 3) (N := some 44) #[true, true, true, true, false] rfl rfl (by kernel_rfl) (by decide) (fun K hK => ?_)
 refine goes_ Try.func41 (by kernel_rfl) rfl #[.agg #[.int .i64 t196, .int .i64 t197, .int .i64 t198, .slice Ao24 t199.length co24], .agg #[.int .i64 t208, .int .i64 t209, .int .i64 t210, .slice Ao42 t211.length co42]] (by rfl) rfl rfl wT ?_
 with_reducible refine (laws_eqIcmp.calls kj10 t196 t197 t198 _ _ t199 t208 t209 t210 _ _ t211 true _ ?side1 ?side2 ?side3 ?side4 A36.out).mono ?_
 (case side1 => exact Ch HO_203003)
 (case side2 => exact (Kd.R_reads' HO_203003.out).2.1)
 (case side3 => exact Ch HO213)
 (case side4 => exact (Kd.R_reads' HO213.out).2.1)
 rintro e w43 ⟨rfl, hb⟩
 refine ⟨_, rfl, ?_⟩
 have n0_ := Aside0.mk (Kd.R_below (Rh HO_4) hb)
 have n1_ := Aside0.mk (Kd.R_below (Rh HO_7) hb)
 have n2_ := Aside0.mk (Kd.R_below (Rh HO_203003) hb)
 have n3_ := Aside0.mk (Kd.R_below (Rh HO213) hb)
 have n4_ := Aside0.mk (blk_below (Bh BK184) hb)
 have n5_ := Aside0.mk (blk_below (Bh BK202) hb)
 have n6_ := Aside0.mk (below_step wB hb)
 clear HO_4
 clear HO_7
 clear HO_203003
 clear HO213
 clear BK184
 clear BK202
 clear HB
 have HO_4 := n0_
 have HO_7 := n1_
 have HO_203003 := n2_
 have HO213 := n3_
 have BK184 := n4_
 have BK202 := n5_
 have HB := n6_
 clear n0_ n1_ n2_ n3_ n4_ n5_ n6_
 (try clear hb)
 (try clear hb2)
 (try clear hk)
 (try clear hi)
 refine hK.out _ _ ⟨(blk_cell BK202.out 0).trans rfl, (blk_cell BK202.out 1).trans rfl, (blk_cell BK202.out 2).trans rfl, (blk_cell BK202.out 3).trans rfl, (blk_cell BK184.out 0).trans rfl, (blk_cell BK184.out 1).trans rfl, (blk_cell BK184.out 2).trans rfl, (blk_cell BK184.out 3).trans rfl⟩ (fun hHeld => ?_)
 clear hK K
 refine norm_ (a' := ?_) ?_ ?_
 rotate_left
 {
 show Act.put _ (some 44) _ = _
 simp only [Act.put, List.setIfInBounds_toArray, List.set_cons_zero, List.set_cons_succ, i64_w, i32_w]
 rfl
 }
 refine pure_ (i := 4) (N := some 45) (v := ?_) (a' := ?_) #[true, true, true, true, true] rfl rfl (by kernel_rfl) (fun _ _ _ h => h) (Or.inl ⟨by rfl, ?_⟩) ?_ ?_
 rotate_left
 {
 intro w'
 go_simp
 with_reducible rfl
 }
 rotate_left
 {
 simp only [Act.put, List.setIfInBounds_toArray, List.set_cons_zero, List.set_cons_succ, i64_w, i32_w]
 rfl
 }
 refine done_ (by kernel_rfl) ?_
 have hnb44 := NB202_184.out
 have hnc44 := NB184_202.out
 obtain ⟨⟨hcz45_0, hcz45_1, hcz45_2, hcz45_3⟩, hfz45_0, hfz45_1, hfz45_2, hfz45_3⟩ := cells4 BK202.out
 go_upto_region 14 with (first | ((with_reducible refine gate_callee (f := 42) rfl ?_); refine goesL_ (some 48) rfl rfl Try.func42 (by kernel_rfl) rfl #[.agg #[.int .i64 t196, .int .i64 t197, .int .i64 t198, .slice Ao24 t199.length co24], .int .i64 1] rfl wT ?_; (with_reducible refine (laws_markIcmp.calls kj10 t196 t197 t198 (fun k_ => some k_ = (.slice Ao24 t199.length co24 : Value).ownBlock) (.slice Ao24 t199.length co24) t199 1 t215 t216 w _ ?side1 ?side2 A38.out).mono ?_); (case side1 => repeat (first | (with_reducible first | exact HB.out | apply below_alloc | apply pw_below_drewN | apply below_drew1 | refine below_set ?_ GE184.out | refine below_set ?_ GE202.out) | exact HB.out)); (case side2 => exact Kd.R_tight rfl HO_203003.out); rintro e w46 ⟨rfl, hy0, hb, hkp⟩; refine ⟨_, rfl, ?_⟩; have n0_ := Aside0.mk (Kd.R_mono (ok' := fun k_ => some k_ ≠ (v204 : Value).ownBlock ∧ some k_ ≠ (.slice Ao24 t199.length co24 : Value).ownBlock ∧ some k_ ≠ (.slice Ao42 t211.length co42 : Value).ownBlock) (Kd.R_keptB (HO_4.out) hkp (fun k_ hk_ hs_ => (hk_.1.2) hs_)) (fun k_ hk_ => ⟨hk_.1.1.1, hk_.1.1.2, hk_.1.2⟩)); have n1_ := Aside0.mk (Kd.R_mono (ok' := fun k_ => some k_ ≠ (v193 : Value).ownBlock ∧ some k_ ≠ (.slice Ao24 t199.length co24 : Value).ownBlock ∧ some k_ ≠ (.slice Ao42 t211.length co42 : Value).ownBlock) (Kd.R_keptB (HO_7.out) hkp (fun k_ hk_ hs_ => (hk_.1.2) hs_)) (fun k_ hk_ => ⟨hk_.1.1.1, hk_.1.1.2, hk_.1.2⟩)); have n2_ := Aside0.mk (Kd.R_reok rfl hy0 (fun k_ e_ => HO_203003.out.1 k_ e_)); have n3_ := Aside0.mk (blk_kept (Bh BK184) hkp (fun hs_ => (fun e_ => (Kd.R_ne HO_203003.out BK184.out (by decide)) e_) hs_)); have n4_ := Aside0.mk (blk_kept (Bh BK202) hkp (fun hs_ => (fun e_ => (Kd.R_ne HO_203003.out BK202.out (by decide)) e_) hs_)); have n5_ := Aside0.mk (Kd.R_mono (ok' := fun k_ => some k_ ≠ (v193 : Value).ownBlock ∧ some k_ ≠ (v204 : Value).ownBlock ∧ some k_ ≠ (.slice Ao24 t199.length co24 : Value).ownBlock) (Kd.R_keptB (HO213.out) hkp (fun k_ hk_ hs_ => (hk_.2) hs_)) (fun k_ hk_ => ⟨hk_.1.1.1.2, hk_.1.1.2, hk_.1.2⟩)); have n6_ := Aside0.mk (hb); clear HO_4; clear HO_7; clear HO_203003; clear BK184; clear BK202; clear HO213; clear HB; have HO_4 := n0_; have HO_7 := n1_; have HO_203003 := n2_; have BK184 := n3_; have BK202 := n4_; have HO213 := n5_; have HB := n6_; clear n0_ n1_ n2_ n3_ n4_ n5_ n6_; (try clear hb); (try clear hkp); (try clear hy0)))
 (try simp only [Act.put, List.setIfInBounds_toArray, List.set_cons_zero, List.set_cons_succ])
 go_cut [61] (fun v61 wc => ∃ (kq : Nat) (x61_38 : Bool), v61 = .bool x61_38 ∧ Aside0 (laws_FnExactEncodeIcmp.j1 kq t192 t195 t203 x61_38 a0_0 a0_1 a0_2 l0_3 = some r) ∧ Aside0 (kq ≤ kj10) ∧ Aside0 (Kd.R (Kd.int .u8) 5 wc w.heap.size (fun k_ => some k_ ≠ (v204 : Value).ownBlock ∧ some k_ ≠ ((.slice Ao24 t199.length co24) : Value).ownBlock) v193 t192) ∧ Aside0 (Kd.R (Kd.int .u8) 5 wc w.heap.size (fun k_ => some k_ ≠ (v193 : Value).ownBlock ∧ some k_ ≠ ((.slice Ao24 t199.length co24) : Value).ownBlock) v204 t203) ∧ Aside0 (Kd.R (Kd.int .u8) 5 wc w.heap.size (fun k_ => some k_ ≠ (v193 : Value).ownBlock ∧ some k_ ≠ (v204 : Value).ownBlock) (.slice Ao24 t199.length co24) t216) ∧ Aside0 (wc.heap[gb184]? = some (.cells #[.int .i64 a0_0, .int .i64 a0_1, .int .i64 a0_2, (.slice A0_3 l0_3.length c0_3)] 61 (0, 0))) ∧ Aside0 (wc.heap[gb202]? = some (.cells #[.int .i64 t196, .int .i64 t197, .int .i64 t198, (.slice Ao24 t199.length co24)] 65 (0, 0))) ∧ Aside0 (Below w.heap.size w wc))
 case first => (
 have H := HC39.out
 clear HC39
 by_cases c47 : t215 < 0
 {
 rw [if_pos c47] at H
 have c47b0 : decide (t215 < 0) = true := decide_eq_true c47
 clear c47
 (first | rw [c47b0] | (simp only [i64_w, i32_w]; rw [c47b0]) | skip)
 have H' := Aside0.mk H
 clear H
 go_wp2
 go_meet
 case rel => exact ⟨_, (true), (by first | rfl | (simp; done) | (simp [*]; done)), H', ⟨by have := HJ10.out; first | omega | exact Nat.le_refl _⟩, ⟨Kd.R_mono (Rh HO_4) (fun _ hk => ⟨hk.1, hk.2.1⟩)⟩, ⟨Kd.R_mono (Rh HO_7) (fun _ hk => ⟨hk.1, hk.2.1⟩)⟩, ⟨Kd.R_mono (Rh HO_203003) (fun _ hk => ⟨hk.1.1, hk.1.2⟩)⟩, ⟨Bh BK184⟩, ⟨Bh BK202⟩, ⟨wB⟩⟩
 }
 {
 rw [if_neg c47] at H
 have c47b0 : decide (t215 < 0) = false := decide_eq_false c47
 clear c47
 (first | rw [c47b0] | (simp only [i64_w, i32_w]; rw [c47b0]) | skip)
 replace H := Option.bind_eq_some_iff.mp H
 obtain ⟨t217, A480, H⟩ := H
 replace H : (if t217 = true then (laws_FnExactEncodeIcmp.j1 kj10 t192 t195 t203 (t206 != t195) a0_0 a0_1 a0_2 l0_3) else (laws_FnExactEncodeIcmp.j1 kj10 t192 t195 t203 true a0_0 a0_1 a0_2 l0_3)) = some r := H
 have A48 := Aside0.mk A480
 clear A480
 by_cases c49 : t217 = true
 {
 subst c49
 have H1 : (laws_FnExactEncodeIcmp.j1 kj10 t192 t195 t203 (t206 != t195) a0_0 a0_1 a0_2 l0_3) = some r := by rw [if_pos rfl] at H; exact H
 clear H
 have H := H1
 clear H1
 have H' := Aside0.mk H
 clear H
 obtain ⟨Ao50, co50, eo50⟩ := Kd.R_slice HO_7.out
 subst eo50
 obtain ⟨Ao51, co51, eo51⟩ := Kd.R_slice HO_4.out
 subst eo51
 go_wp2_with (first | (go_at_call 31; (with_reducible refine (laws_eqByteS.calls kj10 _ _ t203 _ _ t192 true _ ?side1 ?side2 ?side3 ?side4 A48.out).mono ?_); (case side1 => exact Ch HO_7); (case side2 => exact (Kd.R_reads' HO_7.out).2.1); (case side3 => exact Ch HO_4); (case side4 => exact (Kd.R_reads' HO_4.out).2.1); rintro e w' ⟨rfl, ⟨nd, rfl⟩⟩))
 go_meet
 case rel => exact ⟨_, ((t206 != t195)), (by first | rfl | (simp; done) | (simp [*]; done)), H', ⟨by have := HJ10.out; first | omega | exact Nat.le_refl _⟩, ⟨Kd.R_mono (Rh HO_4) (fun _ hk => ⟨hk.1, hk.2.1⟩)⟩, ⟨Kd.R_mono (Rh HO_7) (fun _ hk => ⟨hk.1, hk.2.1⟩)⟩, ⟨Kd.R_mono (Rh HO_203003) (fun _ hk => ⟨hk.1.1, hk.1.2⟩)⟩, ⟨Bh BK184⟩, ⟨Bh BK202⟩, ⟨wB⟩⟩
 }
 {
 replace c49 := Bool.eq_false_iff.mpr c49
 subst c49
 have H1 : (laws_FnExactEncodeIcmp.j1 kj10 t192 t195 t203 true a0_0 a0_1 a0_2 l0_3) = some r := by rw [if_neg (show ¬ (false = true) by decide)] at H; exact H
 clear H
 have H := H1
 clear H1
 have H' := Aside0.mk H
 clear H
 obtain ⟨Ao52, co52, eo52⟩ := Kd.R_slice HO_7.out
 subst eo52
 obtain ⟨Ao53, co53, eo53⟩ := Kd.R_slice HO_4.out
 subst eo53
 go_wp2_with (first | (go_at_call 31; (with_reducible refine (laws_eqByteS.calls kj10 _ _ t203 _ _ t192 false _ ?side1 ?side2 ?side3 ?side4 A48.out).mono ?_); (case side1 => exact Ch HO_7); (case side2 => exact (Kd.R_reads' HO_7.out).2.1); (case side3 => exact Ch HO_4); (case side4 => exact (Kd.R_reads' HO_4.out).2.1); rintro e w' ⟨rfl, ⟨nd, rfl⟩⟩))
 go_meet
 case rel => exact ⟨_, (true), (by first | rfl | (simp; done) | (simp [*]; done)), H', ⟨by have := HJ10.out; first | omega | exact Nat.le_refl _⟩, ⟨Kd.R_mono (Rh HO_4) (fun _ hk => ⟨hk.1, hk.2.1⟩)⟩, ⟨Kd.R_mono (Rh HO_7) (fun _ hk => ⟨hk.1, hk.2.1⟩)⟩, ⟨Kd.R_mono (Rh HO_203003) (fun _ hk => ⟨hk.1.1, hk.1.2⟩)⟩, ⟨Bh BK184⟩, ⟨Bh BK202⟩, ⟨wB⟩⟩
 }
 }
 )
 case rest => (
 clear HC39
 try clear c2
 try clear p2
 try clear c3
 try clear c3b0
 try clear c4
 try clear c8
 try clear c22
 try clear c29
 try clear c31
 try clear c34
 try clear c37
 try clear c38
 try clear c39
 try clear c40
 try clear c41
 try clear c42
 try clear c44
 try clear c47
 try clear c47b0
 try clear c49
 try clear hcz13_0 hcz13_1 hcz13_2 hcz13_3 hfz13_0 hfz13_1 hfz13_2 hfz13_3
 try clear hcz15_0 hcz15_1 hcz15_2 hcz15_3 hfz15_0 hfz15_1 hfz15_2 hfz15_3
 try clear hcz19_0 hcz19_1 hcz19_2 hcz19_3 hfz19_0 hfz19_1 hfz19_2 hfz19_3
 try clear hcz23_0 hcz23_1 hcz23_2 hcz23_3 hfz23_0 hfz23_1 hfz23_2 hfz23_3
 try clear hcz26_0 hcz26_1 hcz26_2 hcz26_3 hfz26_0 hfz26_1 hfz26_2 hfz26_3
 try clear hcz45_0 hcz45_1 hcz45_2 hcz45_3 hfz45_0 hfz45_1 hfz45_2 hfz45_3
 try clear hcz5_0 hcz5_1 hcz5_2 hcz5_3 hfz5_0 hfz5_1 hfz5_2 hfz5_3
 try clear p2
 obtain ⟨kq, x61_38, rfl, HA, HJ38, HO_4, HO_7, HO_203003, BK184, BK202, HB⟩ := hcut
 have hl203003_38 := (Kd.R_reads' HO_203003.out).1
 rw [hl203003_38] at HO_203003
 (try simp only [hl203003_38])
 (try simp only [hl203003_38] at BK184)
 (try simp only [hl203003_38] at BK202)
 (try simp only [hl203003_38] at HO_4)
 (try simp only [hl203003_38] at HO_7)
 cases kq with
 | zero => exact absurd HA.out (by simp [laws_FnExactEncodeIcmp.j1])
 | succ kj38 => {
 have H := HA.out
 clear HA
 simp only [laws_FnExactEncodeIcmp.j1] at H
 by_cases c54 : x61_38 = true
 {
 subst c54
 have H1 : (some false) = some r := by rw [if_pos rfl] at H; exact H
 clear H
 have H := H1
 clear H1
 obtain rfl := Option.some.inj H
 go_wp2
 go_ret
 exact ⟨by first | rfl | (simp [errW_none, errW_some] <;> rfl) | (simp [*, errW_none, errW_some] <;> rfl), wB⟩
 }
 {
 replace c54 := Bool.eq_false_iff.mpr c54
 subst c54
 have H1 : ((laws_markByteS.f kj38 t203 1).bind fun bt218 => ((laws_heldByteS.f kj38 bt218.2 1).bind fun t220 => (if t220 < 0 then (some false) else (if t220 = bt218.1 then ((laws_toIcmp.f kj38 a0_0 a0_1 a0_2 l0_3).bind fun bt221 => ((impl_EncodeIcmp.f kj38 bt221.1 bt221.2.1 bt221.2.2.1 bt221.2.2.2).bind fun bt227 => ((laws_eqByteS.f kj38 bt227.1 t192).bind fun t231 => (if t231 = true then (laws_FnExactEncodeIcmp.j2 kj38 bt218.2 bt218.1 (bt227.2 != t195)) else (laws_FnExactEncodeIcmp.j2 kj38 bt218.2 bt218.1 true))))) else (some false))))) = some r := by rw [if_neg (show ¬ (false = true) by decide)] at H; exact H
 clear H
 have H := H1
 clear H1
 replace H := Option.bind_eq_some_iff.mp H
 obtain ⟨⟨t218, t219⟩, A550, H⟩ := H
 replace H : ((laws_heldByteS.f kj38 t219 1).bind fun t220 => (if t220 < 0 then (some false) else (if t220 = t218 then ((laws_toIcmp.f kj38 a0_0 a0_1 a0_2 l0_3).bind fun bt221 => ((impl_EncodeIcmp.f kj38 bt221.1 bt221.2.1 bt221.2.2.1 bt221.2.2.2).bind fun bt227 => ((laws_eqByteS.f kj38 bt227.1 t192).bind fun t231 => (if t231 = true then (laws_FnExactEncodeIcmp.j2 kj38 t219 t218 (bt227.2 != t195)) else (laws_FnExactEncodeIcmp.j2 kj38 t219 t218 true))))) else (some false)))) = some r := H
 have A55 := Aside0.mk A550
 clear A550
 replace H := Option.bind_eq_some_iff.mp H
 obtain ⟨t220, A560, H⟩ := H
 replace H : (if t220 < 0 then (some false) else (if t220 = t218 then ((laws_toIcmp.f kj38 a0_0 a0_1 a0_2 l0_3).bind fun bt221 => ((impl_EncodeIcmp.f kj38 bt221.1 bt221.2.1 bt221.2.2.1 bt221.2.2.2).bind fun bt227 => ((laws_eqByteS.f kj38 bt227.1 t192).bind fun t231 => (if t231 = true then (laws_FnExactEncodeIcmp.j2 kj38 t219 t218 (bt227.2 != t195)) else (laws_FnExactEncodeIcmp.j2 kj38 t219 t218 true))))) else (some false))) = some r := H
 have A56 := Aside0.mk A560
 clear A560
 by_cases c57 : t220 < 0
 {
 rw [if_pos c57] at H
 have c57b0 : decide (t220 < 0) = true := decide_eq_true c57
 clear c57
 obtain rfl := Option.some.inj H
 have n_ := Aside0.mk (Kd.R_mono (ok' := (fun k_ => some k_ ≠ (.slice Ao24 t216.length co24 : Value).ownBlock)) HO_7.out (fun k_ hk => hk.2))
 clear HO_7
 have HO_7 := n_
 clear n_
 have n_ := Aside0.mk (Kd.R_mono (ok' := (fun k_ => some k_ ≠ (v204 : Value).ownBlock)) HO_203003.out (fun k_ hk => hk.2))
 clear HO_203003
 have HO_203003 := n_
 clear n_
 (try clear HO_4)
 obtain ⟨Ao58, co58, eo58⟩ := Kd.R_slice HO_7.out
 subst eo58
 go_wp2_with (first | ((with_reducible refine gate_callee (f := 43) rfl ?_); refine goesL_ (some 64) rfl rfl Try.func43 (by kernel_rfl) rfl #[.slice Ao58 t203.length co58, .int .i64 1] rfl wT ?_; (with_reducible refine (laws_markByteS.calls kj38 (fun k_ => some k_ = (.slice Ao58 t203.length co58 : Value).ownBlock) (.slice Ao58 t203.length co58) t203 1 t218 t219 w _ ?side1 ?side2 A55.out).mono ?_); (case side1 => repeat (first | (with_reducible first | exact HB.out | apply below_alloc | apply pw_below_drewN | apply below_drew1 | refine below_set ?_ GE184.out | refine below_set ?_ GE202.out) | exact HB.out)); (case side2 => exact Kd.R_tight rfl HO_7.out); rintro e w59 ⟨rfl, hy0, hb, hkp⟩; refine ⟨_, rfl, ?_⟩; have n0_ := Aside0.mk (Kd.R_reok rfl hy0 (fun k_ e_ => HO_7.out.1 k_ e_)); have n1_ := Aside0.mk (Kd.R_mono (ok' := fun k_ => some k_ ≠ (.slice Ao58 t203.length co58 : Value).ownBlock) (Kd.R_keptB (HO_203003.out) hkp (fun k_ hk_ hs_ => (hk_) hs_)) (fun k_ hk_ => hk_.1)); have n2_ := Aside0.mk (blk_kept (Bh BK184) hkp (fun hs_ => (fun e_ => (Kd.R_ne HO_7.out BK184.out (by decide)) e_) hs_)); have n3_ := Aside0.mk (blk_kept (Bh BK202) hkp (fun hs_ => (fun e_ => (Kd.R_ne HO_7.out BK202.out (by decide)) e_) hs_)); have n4_ := Aside0.mk (hb); clear HO_7; clear HO_203003; clear BK184; clear BK202; clear HB; have HO_7 := n0_; have HO_203003 := n1_; have BK184 := n2_; have BK202 := n3_; have HB := n4_; clear n0_ n1_ n2_ n3_ n4_; (try clear hb); (try clear hkp); (try clear hy0)) | ((with_reducible refine gate_callee (f := 44) rfl ?_); refine goesL_ (some 67) rfl rfl Try.func44 (by kernel_rfl) rfl #[.slice Ao58 t219.length co58, .int .i64 1] rfl (by (try simp only [List.map_toArray, List.map_cons, List.map_nil]); first | done | (rw [show t219.length = t203.length from (Kd.R_reads' HO_7.out).1.symm] <;> rfl) | rfl | (simp only [List.length_drop, List.length_take]; rfl)) ?_; (with_reducible refine (laws_heldByteS.calls kj38 _ _ t219 1 t220 _ ?side1 ?side2 A56.out).mono ?_); (case side1 => exact Ch HO_7); (case side2 => rw [show t219.length = t203.length from (Kd.R_reads' HO_7.out).1.symm]; exact (Kd.R_reads' HO_7.out).2.1); rintro e w' ⟨rfl, ⟨nd, rfl⟩⟩; refine ⟨_, rfl, ?_⟩))
 go_ret
 exact ⟨by first | rfl | (simp [errW_none, errW_some] <;> rfl) | (simp [*, errW_none, errW_some] <;> rfl), wB⟩
 }
 {
 rw [if_neg c57] at H
 have c57b0 : decide (t220 < 0) = false := decide_eq_false c57
 clear c57
 by_cases c60 : t220 = t218
 {
 rw [if_pos c60] at H
 have c60b0 : (t220 == t218) = true := beq_iff_eq.mpr c60
 have c60b1 : (t220 != t218) = false := bne_eq_false_iff_eq.mpr c60
 clear c60
 replace H := Option.bind_eq_some_iff.mp H
 obtain ⟨⟨t221, t222, t223, t224⟩, A610, H⟩ := H
 replace H : ((impl_EncodeIcmp.f kj38 t221 t222 t223 t224).bind fun bt227 => ((laws_eqByteS.f kj38 bt227.1 t192).bind fun t231 => (if t231 = true then (laws_FnExactEncodeIcmp.j2 kj38 t219 t218 (bt227.2 != t195)) else (laws_FnExactEncodeIcmp.j2 kj38 t219 t218 true)))) = some r := H
 have A61 := Aside0.mk A610
 clear A610
 replace H := Option.bind_eq_some_iff.mp H
 obtain ⟨⟨t227, t230⟩, A620, H⟩ := H
 replace H : ((laws_eqByteS.f kj38 t227 t192).bind fun t231 => (if t231 = true then (laws_FnExactEncodeIcmp.j2 kj38 t219 t218 (t230 != t195)) else (laws_FnExactEncodeIcmp.j2 kj38 t219 t218 true))) = some r := H
 have A62 := Aside0.mk A620
 clear A620
 have HC63 := Aside0.mk H
 clear H
 obtain ⟨Ao64, co64, eo64⟩ := Kd.R_slice HO_7.out
 subst eo64
 go_upto_region 25 with (first | ((with_reducible refine gate_callee (f := 43) rfl ?_); refine goesL_ (some 64) rfl rfl Try.func43 (by kernel_rfl) rfl #[.slice Ao64 t203.length co64, .int .i64 1] rfl wT ?_; (with_reducible refine (laws_markByteS.calls kj38 (fun k_ => some k_ = (.slice Ao64 t203.length co64 : Value).ownBlock) (.slice Ao64 t203.length co64) t203 1 t218 t219 w _ ?side1 ?side2 A55.out).mono ?_); (case side1 => repeat (first | (with_reducible first | exact HB.out | apply below_alloc | apply pw_below_drewN | apply below_drew1 | refine below_set ?_ GE184.out | refine below_set ?_ GE202.out) | exact HB.out)); (case side2 => exact Kd.R_tight rfl HO_7.out); rintro e w65 ⟨rfl, hy0, hb, hkp⟩; refine ⟨_, rfl, ?_⟩; have n0_ := Aside0.mk (Kd.R_mono (ok' := fun k_ => some k_ ≠ (.slice Ao64 t203.length co64 : Value).ownBlock ∧ some k_ ≠ (.slice Ao24 t216.length co24 : Value).ownBlock) (Kd.R_keptB (HO_4.out) hkp (fun k_ hk_ hs_ => (hk_.1) hs_)) (fun k_ hk_ => ⟨hk_.1.1, hk_.1.2⟩)); have n1_ := Aside0.mk (Kd.R_reok rfl hy0 (fun k_ e_ => HO_7.out.1 k_ e_)); have n2_ := Aside0.mk (Kd.R_mono (ok' := fun k_ => some k_ ≠ (v193 : Value).ownBlock ∧ some k_ ≠ (.slice Ao64 t203.length co64 : Value).ownBlock) (Kd.R_keptB (HO_203003.out) hkp (fun k_ hk_ hs_ => (hk_.2) hs_)) (fun k_ hk_ => ⟨hk_.1.1, hk_.1.2⟩)); have n3_ := Aside0.mk (blk_kept (Bh BK184) hkp (fun hs_ => (fun e_ => (Kd.R_ne HO_7.out BK184.out (by decide)) e_) hs_)); have n4_ := Aside0.mk (blk_kept (Bh BK202) hkp (fun hs_ => (fun e_ => (Kd.R_ne HO_7.out BK202.out (by decide)) e_) hs_)); have n5_ := Aside0.mk (hb); clear HO_4; clear HO_7; clear HO_203003; clear BK184; clear BK202; clear HB; have HO_4 := n0_; have HO_7 := n1_; have HO_203003 := n2_; have BK184 := n3_; have BK202 := n4_; have HB := n5_; clear n0_ n1_ n2_ n3_ n4_ n5_; (try clear hb); (try clear hkp); (try clear hy0)) | ((with_reducible refine gate_callee (f := 44) rfl ?_); refine goesL_ (some 67) rfl rfl Try.func44 (by kernel_rfl) rfl #[.slice Ao64 t219.length co64, .int .i64 1] rfl (by (try simp only [List.map_toArray, List.map_cons, List.map_nil]); first | done | (rw [show t219.length = t203.length from (Kd.R_reads' HO_7.out).1.symm] <;> rfl) | rfl | (simp only [List.length_drop, List.length_take]; rfl)) ?_; (with_reducible refine (laws_heldByteS.calls kj38 _ _ t219 1 t220 _ ?side1 ?side2 A56.out).mono ?_); (case side1 => exact Ch HO_7); (case side2 => rw [show t219.length = t203.length from (Kd.R_reads' HO_7.out).1.symm]; exact (Kd.R_reads' HO_7.out).2.1); rintro e w' ⟨rfl, ⟨nd, rfl⟩⟩; refine ⟨_, rfl, ?_⟩; have hnb66 := NB184_202.out; have hnc66 := NB202_184.out; obtain ⟨⟨hcz67_0, hcz67_1, hcz67_2, hcz67_3⟩, hfz67_0, hfz67_1, hfz67_2, hfz67_3⟩ := cells4 BK184.out) | ((with_reducible refine gate_callee (f := 39) rfl ?_); refine goesL_ (some 75) rfl rfl Try.func39 (by kernel_rfl) rfl #[.agg #[.int .i64 a0_0, .int .i64 a0_1, .int .i64 a0_2, .slice A0_3 l0_3.length c0_3]] rfl wT ?_; (with_reducible refine (laws_toIcmp.calls kj38 a0_0 a0_1 a0_2 _ _ l0_3 t221 t222 t223 t224 _ ?side1 ?side2 A61.out).mono ?_); (case side1 => repeat (first | exact (Kd.C_below HR0_3.out wB) | (with_reducible refine Kd.C_alloc ?_ _) | (with_reducible refine Kd.C_drewN ?_ _) | (with_reducible refine Kd.C_drew ?_))); (case side2 => exact HC0_3.out); rintro e w68 ⟨v225, rfl, ho0, hb⟩; refine ⟨_, rfl, ?_⟩; have n0_ := Aside0.mk (Kd.R_elder' (Rh HO_4) (Kd.R_base ho0) hb); have n1_ := Aside0.mk (Kd.R_elder' (Rh HO_7) (Kd.R_base ho0) hb); have n2_ := Aside0.mk (Kd.R_elder' (Rh HO_203003) (Kd.R_base ho0) hb); have n3_ := Aside0.mk (Kd.R_lower (Kd.R_new' (Kd.R_new' (Kd.R_new' ho0 (Kd.R_lt (Rh HO_4))) (Kd.R_lt (Rh HO_7))) (Kd.R_lt (Rh HO_203003))) (below_size wB)); have n4_ := Aside0.mk (blk_below (Bh BK184) hb); have n5_ := Aside0.mk (blk_below (Bh BK202) hb); have n6_ := Aside0.mk (below_step wB hb); clear HO_4; clear HO_7; clear HO_203003; clear BK184; clear BK202; clear HB; have HO_4 := n0_; have HO_7 := n1_; have HO_203003 := n2_; have HO226 := n3_; have BK184 := n4_; have BK202 := n5_; have HB := n6_; clear n0_ n1_ n2_ n3_ n4_ n5_ n6_; (try clear hb); (try clear hb2); (try clear hk); (try clear hi); (try clear ho0); obtain ⟨Ao69, co69, eo69⟩ := Kd.R_slice HO226.out; subst eo69) | ((with_reducible refine gate_callee (f := 40) rfl ?_); refine goesL_ (some 76) rfl rfl Try.func40 (by kernel_rfl) rfl #[.agg #[.int .i64 t221, .int .i64 t222, .int .i64 t223, .slice Ao69 t224.length co69]] rfl wT ?_; (with_reducible refine (impl_EncodeIcmp.calls kj38 t221 t222 t223 _ _ t224 t227 t230 _ ?side1 ?side2 A62.out).mono ?_); (case side1 => exact Ch HO226); (case side2 => exact (Kd.R_reads' HO226.out).2.1); rintro e w70 ⟨v228, rfl, ho0, hb⟩; refine ⟨_, rfl, ?_⟩; have n0_ := Aside0.mk (Kd.R_elder' (Rh HO_4) (Kd.R_base ho0) hb); have n1_ := Aside0.mk (Kd.R_elder' (Rh HO_7) (Kd.R_base ho0) hb); have n2_ := Aside0.mk (Kd.R_elder' (Rh HO_203003) (Kd.R_base ho0) hb); have n3_ := Aside0.mk (Kd.R_elder' (Rh HO226) (Kd.R_base ho0) hb); have n4_ := Aside0.mk (Kd.R_lower (Kd.R_new' (Kd.R_new' (Kd.R_new' (Kd.R_new' ho0 (Kd.R_lt (Rh HO_4))) (Kd.R_lt (Rh HO_7))) (Kd.R_lt (Rh HO_203003))) (Kd.R_lt (Rh HO226))) (below_size wB)); have n5_ := Aside0.mk (blk_below (Bh BK184) hb); have n6_ := Aside0.mk (blk_below (Bh BK202) hb); have n7_ := Aside0.mk (below_step wB hb); clear HO_4; clear HO_7; clear HO_203003; clear HO226; clear BK184; clear BK202; clear HB; have HO_4 := n0_; have HO_7 := n1_; have HO_203003 := n2_; have HO226 := n3_; have HO229 := n4_; have BK184 := n5_; have BK202 := n6_; have HB := n7_; clear n0_ n1_ n2_ n3_ n4_ n5_ n6_ n7_; (try clear hb); (try clear hb2); (try clear hk); (try clear hi); (try clear ho0)))
 (try simp only [Act.put, List.setIfInBounds_toArray, List.set_cons_zero, List.set_cons_succ])
 go_cut [87] (fun v87 wc => ∃ (kq : Nat) (x87_62 : Bool), v87 = .bool x87_62 ∧ Aside0 (laws_FnExactEncodeIcmp.j2 kq t219 t218 x87_62 = some r) ∧ Aside0 (kq ≤ kj38) ∧ Aside0 (Kd.R (Kd.int .u8) 5 wc w.heap.size (fun k_ => some k_ ≠ ((.slice Ao24 t216.length co24) : Value).ownBlock) (.slice Ao64 t203.length co64) t219) ∧ Aside0 (Kd.R (Kd.int .u8) 5 wc w.heap.size (fun k_ => some k_ ≠ ((.slice Ao64 t203.length co64) : Value).ownBlock) (.slice Ao24 t216.length co24) t216) ∧ Aside0 (wc.heap[gb184]? = some (.cells #[.int .i64 a0_0, .int .i64 a0_1, .int .i64 a0_2, (.slice A0_3 l0_3.length c0_3)] 61 (0, 0))) ∧ Aside0 (wc.heap[gb202]? = some (.cells #[.int .i64 t196, .int .i64 t197, .int .i64 t198, (.slice Ao24 t216.length co24)] 65 (0, 0))) ∧ Aside0 (Below w.heap.size w wc))
 case first => (
 have H := HC63.out
 clear HC63
 replace H := Option.bind_eq_some_iff.mp H
 obtain ⟨t231, A710, H⟩ := H
 replace H : (if t231 = true then (laws_FnExactEncodeIcmp.j2 kj38 t219 t218 (t230 != t195)) else (laws_FnExactEncodeIcmp.j2 kj38 t219 t218 true)) = some r := H
 have A71 := Aside0.mk A710
 clear A710
 by_cases c72 : t231 = true
 {
 subst c72
 have H1 : (laws_FnExactEncodeIcmp.j2 kj38 t219 t218 (t230 != t195)) = some r := by rw [if_pos rfl] at H; exact H
 clear H
 have H := H1
 clear H1
 have H' := Aside0.mk H
 clear H
 obtain ⟨Ao73, co73, eo73⟩ := Kd.R_slice HO229.out
 subst eo73
 obtain ⟨Ao74, co74, eo74⟩ := Kd.R_slice HO_4.out
 subst eo74
 go_wp2_with (first | ((with_reducible refine gate_callee (f := 31) rfl ?_); refine goesL_ (some 81) rfl rfl Try.func31 (by kernel_rfl) rfl #[.slice Ao73 t227.length co73, .slice Ao74 t192.length co74] rfl wT ?_; (with_reducible refine (laws_eqByteS.calls kj38 _ _ t227 _ _ t192 true _ ?side1 ?side2 ?side3 ?side4 A71.out).mono ?_); (case side1 => exact Ch HO229); (case side2 => exact (Kd.R_reads' HO229.out).2.1); (case side3 => exact Ch HO_4); (case side4 => exact (Kd.R_reads' HO_4.out).2.1); rintro e w' ⟨rfl, ⟨nd, rfl⟩⟩; refine ⟨_, rfl, ?_⟩))
 go_meet
 case rel => exact ⟨_, ((t230 != t195)), (by first | rfl | (simp; done) | (simp [*]; done)), H', ⟨by have := HJ10.out; have := HJ38.out; first | omega | exact Nat.le_refl _⟩, ⟨by (try simp only [hl203003_38]); (with_reducible repeat (first | apply Kd.R_alloc | apply Kd.R_drewN | apply Kd.R_drew)); exact Kd.R_mono HO_7.out (fun _ hk => hk.1.1.2)⟩, ⟨by (try simp only [hl203003_38]); (with_reducible repeat (first | apply Kd.R_alloc | apply Kd.R_drewN | apply Kd.R_drew)); exact Kd.R_mono HO_203003.out (fun _ hk => hk.1.1.2)⟩, ⟨by (try simp only [hl203003_38]); (with_reducible repeat (first | refine blk_drewN ?_ _ | refine blk_drew ?_ | refine blk_alloc ?_ _)); exact BK184.out⟩, ⟨by (try simp only [hl203003_38]); (with_reducible repeat (first | refine blk_drewN ?_ _ | refine blk_drew ?_ | refine blk_alloc ?_ _)); exact BK202.out⟩, ⟨wB⟩⟩
 }
 {
 replace c72 := Bool.eq_false_iff.mpr c72
 subst c72
 have H1 : (laws_FnExactEncodeIcmp.j2 kj38 t219 t218 true) = some r := by rw [if_neg (show ¬ (false = true) by decide)] at H; exact H
 clear H
 have H := H1
 clear H1
 have H' := Aside0.mk H
 clear H
 obtain ⟨Ao75, co75, eo75⟩ := Kd.R_slice HO229.out
 subst eo75
 obtain ⟨Ao76, co76, eo76⟩ := Kd.R_slice HO_4.out
 subst eo76
 go_wp2_with (first | ((with_reducible refine gate_callee (f := 31) rfl ?_); refine goesL_ (some 81) rfl rfl Try.func31 (by kernel_rfl) rfl #[.slice Ao75 t227.length co75, .slice Ao76 t192.length co76] rfl wT ?_; (with_reducible refine (laws_eqByteS.calls kj38 _ _ t227 _ _ t192 false _ ?side1 ?side2 ?side3 ?side4 A71.out).mono ?_); (case side1 => exact Ch HO229); (case side2 => exact (Kd.R_reads' HO229.out).2.1); (case side3 => exact Ch HO_4); (case side4 => exact (Kd.R_reads' HO_4.out).2.1); rintro e w' ⟨rfl, ⟨nd, rfl⟩⟩; refine ⟨_, rfl, ?_⟩))
 go_meet
 case rel => exact ⟨_, (true), (by first | rfl | (simp; done) | (simp [*]; done)), H', ⟨by have := HJ10.out; have := HJ38.out; first | omega | exact Nat.le_refl _⟩, ⟨by (try simp only [hl203003_38]); (with_reducible repeat (first | apply Kd.R_alloc | apply Kd.R_drewN | apply Kd.R_drew)); exact Kd.R_mono HO_7.out (fun _ hk => hk.1.1.2)⟩, ⟨by (try simp only [hl203003_38]); (with_reducible repeat (first | apply Kd.R_alloc | apply Kd.R_drewN | apply Kd.R_drew)); exact Kd.R_mono HO_203003.out (fun _ hk => hk.1.1.2)⟩, ⟨by (try simp only [hl203003_38]); (with_reducible repeat (first | refine blk_drewN ?_ _ | refine blk_drew ?_ | refine blk_alloc ?_ _)); exact BK184.out⟩, ⟨by (try simp only [hl203003_38]); (with_reducible repeat (first | refine blk_drewN ?_ _ | refine blk_drew ?_ | refine blk_alloc ?_ _)); exact BK202.out⟩, ⟨wB⟩⟩
 }
 )
 case rest => (
 clear HC63
 try clear c2
 try clear p2
 try clear c3
 try clear c3b0
 try clear c4
 try clear c5
 try clear c6
 try clear c7
 try clear c8
 try clear c22
 try clear c29
 try clear c31
 try clear c34
 try clear c37
 try clear c38
 try clear c39
 try clear c40
 try clear c41
 try clear c42
 try clear c43
 try clear c44
 try clear c47
 try clear c47b0
 try clear c49
 try clear c54
 try clear c57
 try clear c57b0
 try clear c60
 try clear c60b0
 try clear c60b1
 try clear c66
 try clear c72
 try clear hcz13_0 hcz13_1 hcz13_2 hcz13_3 hfz13_0 hfz13_1 hfz13_2 hfz13_3
 try clear hcz15_0 hcz15_1 hcz15_2 hcz15_3 hfz15_0 hfz15_1 hfz15_2 hfz15_3
 try clear hcz19_0 hcz19_1 hcz19_2 hcz19_3 hfz19_0 hfz19_1 hfz19_2 hfz19_3
 try clear hcz23_0 hcz23_1 hcz23_2 hcz23_3 hfz23_0 hfz23_1 hfz23_2 hfz23_3
 try clear hcz26_0 hcz26_1 hcz26_2 hcz26_3 hfz26_0 hfz26_1 hfz26_2 hfz26_3
 try clear hcz45_0 hcz45_1 hcz45_2 hcz45_3 hfz45_0 hfz45_1 hfz45_2 hfz45_3
 try clear hcz5_0 hcz5_1 hcz5_2 hcz5_3 hfz5_0 hfz5_1 hfz5_2 hfz5_3
 try clear hcz67_0 hcz67_1 hcz67_2 hcz67_3 hfz67_0 hfz67_1 hfz67_2 hfz67_3
 try clear p2
 obtain ⟨kq, x87_62, rfl, HA, HJ62, HO_7, HO_203003, BK184, BK202, HB⟩ := hcut
 have hl7_62 := (Kd.R_reads' HO_7.out).1
 rw [hl7_62] at HO_7
 (try simp only [hl7_62])
 (try simp only [hl7_62] at BK184)
 (try simp only [hl7_62] at BK202)
 (try simp only [hl7_62] at HO_203003)
 cases kq with
 | zero => exact absurd HA.out (by simp [laws_FnExactEncodeIcmp.j2])
 | succ kj62 => {
 have H := HA.out
 clear HA
 simp only [laws_FnExactEncodeIcmp.j2] at H
 by_cases c77 : x87_62 = true
 {
 subst c77
 have H1 : (some false) = some r := by rw [if_pos rfl] at H; exact H
 clear H
 have H := H1
 clear H1
 obtain rfl := Option.some.inj H
 go_wp2
 go_ret
 exact ⟨by first | rfl | (simp [errW_none, errW_some] <;> rfl) | (simp [*, errW_none, errW_some] <;> rfl), wB⟩
 }
 {
 replace c77 := Bool.eq_false_iff.mpr c77
 subst c77
 have H1 : ((laws_heldByteS.f kj62 t219 1).bind fun t232 => (if t232 < 0 then (some false) else (if t232 = t218 then (some true) else (some false)))) = some r := by rw [if_neg (show ¬ (false = true) by decide)] at H; exact H
 clear H
 have H := H1
 clear H1
 replace H := Option.bind_eq_some_iff.mp H
 obtain ⟨t232, A780, H⟩ := H
 replace H : (if t232 < 0 then (some false) else (if t232 = t218 then (some true) else (some false))) = some r := H
 have A78 := Aside0.mk A780
 clear A780
 by_cases c79 : t232 < 0
 {
 rw [if_pos c79] at H
 have c79b0 : decide (t232 < 0) = true := decide_eq_true c79
 clear c79
 obtain rfl := Option.some.inj H
 go_wp2_with (first | ((with_reducible refine gate_callee (f := 44) rfl ?_); refine goesL_ (some 90) rfl rfl Try.func44 (by kernel_rfl) rfl #[.slice Ao64 t219.length co64, .int .i64 1] rfl wT ?_; (with_reducible refine (laws_heldByteS.calls kj62 _ _ t219 1 t232 _ ?side1 ?side2 A78.out).mono ?_); (case side1 => exact Ch HO_7); (case side2 => exact (Kd.R_reads' HO_7.out).2.1); rintro e w' ⟨rfl, ⟨nd, rfl⟩⟩; refine ⟨_, rfl, ?_⟩))
 go_ret
 exact ⟨by first | rfl | (simp [errW_none, errW_some] <;> rfl) | (simp [*, errW_none, errW_some] <;> rfl), wB⟩
 }
 {
 rw [if_neg c79] at H
 have c79b0 : decide (t232 < 0) = false := decide_eq_false c79
 clear c79
 by_cases c80 : t232 = t218
 {
 rw [if_pos c80] at H
 have c80b0 : (t232 == t218) = true := beq_iff_eq.mpr c80
 have c80b1 : (t232 != t218) = false := bne_eq_false_iff_eq.mpr c80
 clear c80
 obtain rfl := Option.some.inj H
 go_wp2_with (first | ((with_reducible refine gate_callee (f := 44) rfl ?_); refine goesL_ (some 90) rfl rfl Try.func44 (by kernel_rfl) rfl #[.slice Ao64 t219.length co64, .int .i64 1] rfl wT ?_; (with_reducible refine (laws_heldByteS.calls kj62 _ _ t219 1 t232 _ ?side1 ?side2 A78.out).mono ?_); (case side1 => exact Ch HO_7); (case side2 => exact (Kd.R_reads' HO_7.out).2.1); rintro e w' ⟨rfl, ⟨nd, rfl⟩⟩; refine ⟨_, rfl, ?_⟩))
 go_ret
 exact ⟨by first | rfl | (simp [errW_none, errW_some] <;> rfl) | (simp [*, errW_none, errW_some] <;> rfl), wB⟩
 }
 {
 rw [if_neg c80] at H
 have c80b0 : (t232 == t218) = false := beq_eq_false_iff_ne.mpr c80
 have c80b1 : (t232 != t218) = true := bne_iff_ne.mpr c80
 obtain rfl := Option.some.inj H
 go_wp2_with (first | ((with_reducible refine gate_callee (f := 44) rfl ?_); refine goesL_ (some 90) rfl rfl Try.func44 (by kernel_rfl) rfl #[.slice Ao64 t219.length co64, .int .i64 1] rfl wT ?_; (with_reducible refine (laws_heldByteS.calls kj62 _ _ t219 1 t232 _ ?side1 ?side2 A78.out).mono ?_); (case side1 => exact Ch HO_7); (case side2 => exact (Kd.R_reads' HO_7.out).2.1); rintro e w' ⟨rfl, ⟨nd, rfl⟩⟩; refine ⟨_, rfl, ?_⟩))
 go_ret
 exact ⟨by first | rfl | (simp [errW_none, errW_some] <;> rfl) | (simp [*, errW_none, errW_some] <;> rfl), wB⟩
 }
 }
 }
 }
 )
 }
 {
 rw [if_neg c60] at H
 have c60b0 : (t220 == t218) = false := beq_eq_false_iff_ne.mpr c60
 have c60b1 : (t220 != t218) = true := bne_iff_ne.mpr c60
 obtain rfl := Option.some.inj H
 have n_ := Aside0.mk (Kd.R_mono (ok' := (fun k_ => some k_ ≠ (.slice Ao24 t216.length co24 : Value).ownBlock)) HO_7.out (fun k_ hk => hk.2))
 clear HO_7
 have HO_7 := n_
 clear n_
 have n_ := Aside0.mk (Kd.R_mono (ok' := (fun k_ => some k_ ≠ (v204 : Value).ownBlock)) HO_203003.out (fun k_ hk => hk.2))
 clear HO_203003
 have HO_203003 := n_
 clear n_
 (try clear HO_4)
 obtain ⟨Ao81, co81, eo81⟩ := Kd.R_slice HO_7.out
 subst eo81
 go_wp2_with (first | ((with_reducible refine gate_callee (f := 43) rfl ?_); refine goesL_ (some 64) rfl rfl Try.func43 (by kernel_rfl) rfl #[.slice Ao81 t203.length co81, .int .i64 1] rfl wT ?_; (with_reducible refine (laws_markByteS.calls kj38 (fun k_ => some k_ = (.slice Ao81 t203.length co81 : Value).ownBlock) (.slice Ao81 t203.length co81) t203 1 t218 t219 w _ ?side1 ?side2 A55.out).mono ?_); (case side1 => repeat (first | (with_reducible first | exact HB.out | apply below_alloc | apply pw_below_drewN | apply below_drew1 | refine below_set ?_ GE184.out | refine below_set ?_ GE202.out) | exact HB.out)); (case side2 => exact Kd.R_tight rfl HO_7.out); rintro e w82 ⟨rfl, hy0, hb, hkp⟩; refine ⟨_, rfl, ?_⟩; have n0_ := Aside0.mk (Kd.R_reok rfl hy0 (fun k_ e_ => HO_7.out.1 k_ e_)); have n1_ := Aside0.mk (Kd.R_mono (ok' := fun k_ => some k_ ≠ (.slice Ao81 t203.length co81 : Value).ownBlock) (Kd.R_keptB (HO_203003.out) hkp (fun k_ hk_ hs_ => (hk_) hs_)) (fun k_ hk_ => hk_.1)); have n2_ := Aside0.mk (blk_kept (Bh BK184) hkp (fun hs_ => (fun e_ => (Kd.R_ne HO_7.out BK184.out (by decide)) e_) hs_)); have n3_ := Aside0.mk (blk_kept (Bh BK202) hkp (fun hs_ => (fun e_ => (Kd.R_ne HO_7.out BK202.out (by decide)) e_) hs_)); have n4_ := Aside0.mk (hb); clear HO_7; clear HO_203003; clear BK184; clear BK202; clear HB; have HO_7 := n0_; have HO_203003 := n1_; have BK184 := n2_; have BK202 := n3_; have HB := n4_; clear n0_ n1_ n2_ n3_ n4_; (try clear hb); (try clear hkp); (try clear hy0)) | ((with_reducible refine gate_callee (f := 44) rfl ?_); refine goesL_ (some 67) rfl rfl Try.func44 (by kernel_rfl) rfl #[.slice Ao81 t219.length co81, .int .i64 1] rfl (by (try simp only [List.map_toArray, List.map_cons, List.map_nil]); first | done | (rw [show t219.length = t203.length from (Kd.R_reads' HO_7.out).1.symm] <;> rfl) | rfl | (simp only [List.length_drop, List.length_take]; rfl)) ?_; (with_reducible refine (laws_heldByteS.calls kj38 _ _ t219 1 t220 _ ?side1 ?side2 A56.out).mono ?_); (case side1 => exact Ch HO_7); (case side2 => rw [show t219.length = t203.length from (Kd.R_reads' HO_7.out).1.symm]; exact (Kd.R_reads' HO_7.out).2.1); rintro e w' ⟨rfl, ⟨nd, rfl⟩⟩; refine ⟨_, rfl, ?_⟩))
 go_ret
 exact ⟨by first | rfl | (simp [errW_none, errW_some] <;> rfl) | (simp [*, errW_none, errW_some] <;> rfl), wB⟩
 }
 }
 }
 }
 )
 }
 {
 replace c37 := Bool.eq_false_iff.mpr c37
 subst c37
 have H1 : (some false) = some r := by rw [if_neg (show ¬ (false = true) by decide)] at H; exact H
 clear H
 have H := H1
 clear H1
 obtain rfl := Option.some.inj H
 try go_wp2
 have n0_ := Aside0.mk (Kd.R_drew HO_4.out)
 have n1_ := Aside0.mk (Kd.R_drew HO_7.out)
 have n2_ := Aside0.mk (Kd.R_drew HO_203003.out)
 have n3_ := Aside0.mk (blk_drew BK184.out)
 have n4_ := Aside0.mk (blk_drew BK202.out)
 have n5_ := Aside0.mk (below_drew1 HB.out)
 clear HO_4
 clear HO_7
 clear HO_203003
 clear BK184
 clear BK202
 clear HB
 have HO_4 := n0_
 have HO_7 := n1_
 have HO_203003 := n2_
 have BK184 := n3_
 have BK202 := n4_
 have HB := n5_
 clear n0_ n1_ n2_ n3_ n4_ n5_
 refine start_ (n := 5) (S := fun w' => w'.cell? ⟨gb202, 0, none⟩ = some (.int .i64 t196) ∧ w'.cell? ⟨gb202, 1, none⟩ = some (.int .i64 t197) ∧ w'.cell? ⟨gb202, 2, none⟩ = some (.int .i64 t198) ∧ w'.cell? ⟨gb202, 3, none⟩ = some (.slice Ao24 t199.length co24) ∧ w'.cell? ⟨gb184, 0, none⟩ = some (.int .i64 a0_0) ∧ w'.cell? ⟨gb184, 1, none⟩ = some (.int .i64 a0_1) ∧ w'.cell? ⟨gb184, 2, none⟩ = some (.int .i64 a0_2) ∧ w'.cell? ⟨gb184, 3, none⟩ = some (.slice A0_3 l0_3.length c0_3)) (ds := []) #[false, false, false, false, false] (by kernel_rfl) rfl rfl ⟨(blk_cell BK202.out 0).trans rfl, (blk_cell BK202.out 1).trans rfl, (blk_cell BK202.out 2).trans rfl, (blk_cell BK202.out 3).trans rfl, (blk_cell BK184.out 0).trans rfl, (blk_cell BK184.out 1).trans rfl, (blk_cell BK184.out 2).trans rfl, (blk_cell BK184.out 3).trans rfl⟩ (fun hHeld => ?_)
 generalize wc.drew = w83 at HO_4 HO_7 HO_203003 BK184 BK202 HB hHeld ⊢
 refine take_ (i := 0) (N := some 41) (v := ?_) (a' := ?_) #[true, false, false, false, false] rfl rfl (by kernel_rfl) (fun _ _ _ h => h) (Or.inl ⟨by rfl, ?_⟩) hHeld ?_ ?_
 rotate_left
 {
 rintro w' ⟨s0, s1, s2, s3, s4, s5, s6, s7⟩
 go_simp
 with_reducible rfl
 }
 rotate_left
 {
 simp only [Act.put, List.setIfInBounds_toArray, List.set_cons_zero, List.set_cons_succ, i64_w, i32_w]
 rfl
 }
 refine take_ (i := 1) (N := some 42) (v := ?_) (a' := ?_) #[true, true, false, false, false] rfl rfl (by kernel_rfl) (fun _ _ _ h => h) (Or.inl ⟨by rfl, ?_⟩) hHeld ?_ ?_
 rotate_left
 {
 rintro w' ⟨s0, s1, s2, s3, s4, s5, s6, s7⟩
 go_simp
 with_reducible rfl
 }
 rotate_left
 {
 simp only [Act.put, List.setIfInBounds_toArray, List.set_cons_zero, List.set_cons_succ, i64_w, i32_w]
 rfl
 }
 refine one_ (i := 2) (N := some 43) #[true, true, true, false, false] rfl rfl (by kernel_rfl) (by decide) (fun K hK => ?_)
 refine goes_ Try.func39 (by kernel_rfl) rfl #[.agg #[.int .i64 a0_0, .int .i64 a0_1, .int .i64 a0_2, .slice A0_3 l0_3.length c0_3]] (by rfl) rfl rfl wT ?_
 with_reducible refine (laws_toIcmp.calls kj10 a0_0 a0_1 a0_2 _ _ l0_3 t208 t209 t210 t211 _ ?side1 ?side2 A35.out).mono ?_
 (case side1 => exact Kd.C_below HR0_3.out wB)
 (case side2 => exact HC0_3.out)
 rintro e w84 ⟨v212, rfl, ho0, hb⟩
 refine ⟨_, rfl, ?_⟩
 have n0_ := Aside0.mk (Kd.R_elder' (Rh HO_4) (Kd.R_base ho0) hb)
 have n1_ := Aside0.mk (Kd.R_elder' (Rh HO_7) (Kd.R_base ho0) hb)
 have n2_ := Aside0.mk (Kd.R_elder' (Rh HO_203003) (Kd.R_base ho0) hb)
 have n3_ := Aside0.mk (Kd.R_lower (Kd.R_new' (Kd.R_new' (Kd.R_new' ho0 (Kd.R_lt (Rh HO_4))) (Kd.R_lt (Rh HO_7))) (Kd.R_lt (Rh HO_203003))) (below_size wB))
 have n4_ := Aside0.mk (blk_below (Bh BK184) hb)
 have n5_ := Aside0.mk (blk_below (Bh BK202) hb)
 have n6_ := Aside0.mk (below_step wB hb)
 clear HO_4
 clear HO_7
 clear HO_203003
 clear BK184
 clear BK202
 clear HB
 have HO_4 := n0_
 have HO_7 := n1_
 have HO_203003 := n2_
 have HO213 := n3_
 have BK184 := n4_
 have BK202 := n5_
 have HB := n6_
 clear n0_ n1_ n2_ n3_ n4_ n5_ n6_
 (try clear hb)
 (try clear hb2)
 (try clear hk)
 (try clear hi)
 (try clear ho0)
 obtain ⟨Ao85, co85, eo85⟩ := Kd.R_slice HO213.out
 (first | subst eo85 | (injection eo85 with f1_ f2_ f3_; have f4_ := f1_.symm; have f5_ := f3_.symm; clear f1_ f2_ f3_; subst f4_; subst f5_))
 refine hK.out _ _ ⟨(blk_cell BK202.out 0).trans rfl, (blk_cell BK202.out 1).trans rfl, (blk_cell BK202.out 2).trans rfl, (blk_cell BK202.out 3).trans rfl, (blk_cell BK184.out 0).trans rfl, (blk_cell BK184.out 1).trans rfl, (blk_cell BK184.out 2).trans rfl, (blk_cell BK184.out 3).trans rfl⟩ (fun hHeld => ?_)
 clear hK K
 refine norm_ (a' := ?_) ?_ ?_
 rotate_left
 {
 show Act.put _ (some 43) _ = _
 simp only [Act.put, List.setIfInBounds_toArray, List.set_cons_zero, List.set_cons_succ, i64_w, i32_w]
 rfl
 }
 refine one_ (i := 3) (N := some 44) #[true, true, true, true, false] rfl rfl (by kernel_rfl) (by decide) (fun K hK => ?_)
 refine goes_ Try.func41 (by kernel_rfl) rfl #[.agg #[.int .i64 t196, .int .i64 t197, .int .i64 t198, .slice Ao24 t199.length co24], .agg #[.int .i64 t208, .int .i64 t209, .int .i64 t210, .slice Ao85 t211.length co85]] (by rfl) rfl rfl wT ?_
 with_reducible refine (laws_eqIcmp.calls kj10 t196 t197 t198 _ _ t199 t208 t209 t210 _ _ t211 false _ ?side1 ?side2 ?side3 ?side4 A36.out).mono ?_
 (case side1 => exact Ch HO_203003)
 (case side2 => exact (Kd.R_reads' HO_203003.out).2.1)
 (case side3 => exact Ch HO213)
 (case side4 => exact (Kd.R_reads' HO213.out).2.1)
 rintro e w86 ⟨rfl, hb⟩
 refine ⟨_, rfl, ?_⟩
 have n0_ := Aside0.mk (Kd.R_below (Rh HO_4) hb)
 have n1_ := Aside0.mk (Kd.R_below (Rh HO_7) hb)
 have n2_ := Aside0.mk (Kd.R_below (Rh HO_203003) hb)
 have n3_ := Aside0.mk (Kd.R_below (Rh HO213) hb)
 have n4_ := Aside0.mk (blk_below (Bh BK184) hb)
 have n5_ := Aside0.mk (blk_below (Bh BK202) hb)
 have n6_ := Aside0.mk (below_step wB hb)
 clear HO_4
 clear HO_7
 clear HO_203003
 clear HO213
 clear BK184
 clear BK202
 clear HB
 have HO_4 := n0_
 have HO_7 := n1_
 have HO_203003 := n2_
 have HO213 := n3_
 have BK184 := n4_
 have BK202 := n5_
 have HB := n6_
 clear n0_ n1_ n2_ n3_ n4_ n5_ n6_
 (try clear hb)
 (try clear hb2)
 (try clear hk)
 (try clear hi)
 refine hK.out _ _ ⟨(blk_cell BK202.out 0).trans rfl, (blk_cell BK202.out 1).trans rfl, (blk_cell BK202.out 2).trans rfl, (blk_cell BK202.out 3).trans rfl, (blk_cell BK184.out 0).trans rfl, (blk_cell BK184.out 1).trans rfl, (blk_cell BK184.out 2).trans rfl, (blk_cell BK184.out 3).trans rfl⟩ (fun hHeld => ?_)
 clear hK K
 refine norm_ (a' := ?_) ?_ ?_
 rotate_left
 {
 show Act.put _ (some 44) _ = _
 simp only [Act.put, List.setIfInBounds_toArray, List.set_cons_zero, List.set_cons_succ, i64_w, i32_w]
 rfl
 }
 refine pure_ (i := 4) (N := some 45) (v := ?_) (a' := ?_) #[true, true, true, true, true] rfl rfl (by kernel_rfl) (fun _ _ _ h => h) (Or.inl ⟨by rfl, ?_⟩) ?_ ?_
 rotate_left
 {
 intro w'
 go_simp
 with_reducible rfl
 }
 rotate_left
 {
 simp only [Act.put, List.setIfInBounds_toArray, List.set_cons_zero, List.set_cons_succ, i64_w, i32_w]
 rfl
 }
 refine done_ (by kernel_rfl) ?_
 try go_wp2
 go_ret
 exact ⟨by first | rfl | (simp [errW_none, errW_some] <;> rfl) | (simp [*, errW_none, errW_some] <;> rfl), wB⟩
 }
 }
 }
 )
 }

end Go.Proofs.Ytdigkdoihfpdgaa.PFnExactEncodeIcmp
