-- Written for this claim by a program of this session (wip/mkprint.py: the print, turned at a few places). Not trusted: Lean checks it.
import Derived.Test.YtnnplkhjmdbmbaaDoorPFnExactReadAddrx0
import Derived.Test.YtnnplkhjmdbmbaaDoorPFnExactReadAddrx1
import Derived.Test.YtnnplkhjmdbmbaaDoorPFnExactReadAddrx2
namespace Go.Proofs.YtnnplkhjmdbmbaaDoor.PFnExactReadAddr
open Go.RowKit Go.Proofs.YtnnplkhjmdbmbaaDoorW.PrintWords Go.Proofs.YtnnplkhjmdbmbaaDoorW.PrintLast Go.Proofs.YtnnplkhjmdbmbaaDoorW.PrintMore
attribute [local go_sem] max2_int min2_int max_two min_two max_three min_three max_four min_four   -- for this text's walks alone
set_option linter.unusedVariables false
set_option linter.unusedSimpArgs false

/-! ### laws_FnExactReadAddr: function 6 -/
def laws_FnExactReadAddr.f (k : Nat) (a0 : ByteArray) : Option (Bool) := if (a0.size : Int) > 1048576 then (some true) else ((spec_ReadAddr.f k a0).bind fun bt137 => ((impl_ReadAddr.f k a0).bind fun bt139 => (if bt139.1 = bt137.1 then (if bt139.2 = bt137.2 then (some true) else (some false)) else (some false))))
theorem laws_FnExactReadAddr.mono : ∀ a0 k, LeO (laws_FnExactReadAddr.f k a0) (laws_FnExactReadAddr.f (k + 1) a0) := by
  intro a0 k
  unfold laws_FnExactReadAddr.f
  repeat' first
      | (with_reducible exact impl_ReadAddr.mono _ _)
      | (with_reducible exact spec_ReadAddr.mono _ _)
      | (with_reducible exact LeO.refl _)
      | (with_reducible exact LeO.none _)
      | (with_reducible refine LeO.ite ?_ ?_)
      | (with_reducible refine LeO.bind ?_ (fun _ => ?_))
      | exact impl_ReadAddr.mono _ _
      | exact spec_ReadAddr.mono _ _
      | exact LeO.none _
      | refine LeO.ite ?_ ?_
      | refine LeO.bind ?_ (fun _ => ?_)
set_option maxHeartbeats 60000000 in
set_option maxRecDepth 100000 in
theorem laws_FnExactReadAddr.calls (k : Nat) (a0 : ByteArray) (r : Bool) (w : World) (hd : Door w) (h : laws_FnExactReadAddr.f k a0 = some r) :
    Calls Tryd.prog 6 #[.string a0] w fun e w' => e = .returned (.bool r) ∧ Below w.heap.size w w' := by
  have HD := Aside0.mk hd
  clear hd
  have HB := Aside0.mk (Below.refl w.heap.size w)
  have H : (if (a0.size : Int) > 1048576 then (some true) else ((spec_ReadAddr.f k a0).bind fun bt137 => ((impl_ReadAddr.f k a0).bind fun bt139 => (if bt139.1 = bt137.1 then (if bt139.2 = bt137.2 then (some true) else (some false)) else (some false))))) = some r := h
  clear h
  by_cases c2 : (a0.size : Int) > 1048576
  · rw [if_pos c2] at H
    have c2b0 : decide (1048576 < (a0.size : Int)) = true := decide_eq_true c2
    have c2b1 : decide (1048576 < a0.size) = true := decide_eq_true (by omega)
    clear c2
    obtain rfl := Option.some.inj H
    go_enter Tryd.func6, Tryd.ntmps6
    go_wp2
    go_ret
    exact ⟨by first | rfl | (simp [errW_none, errW_some] <;> rfl) | (simp [*, errW_none, errW_some] <;> rfl), wB⟩
  · rw [if_neg c2] at H
    have c2b0 : decide (1048576 < (a0.size : Int)) = false := decide_eq_false c2
    have c2b1 : decide (1048576 < a0.size) = false := decide_eq_false (by omega)
    clear c2
    replace H := Option.bind_eq_some_iff.mp H
    obtain ⟨⟨t137, t138⟩, A30, H⟩ := H
    replace H : ((impl_ReadAddr.f k a0).bind fun bt139 => (if bt139.1 = t137 then (if bt139.2 = t138 then (some true) else (some false)) else (some false))) = some r := H
    have A3 := Aside0.mk A30
    clear A30
    replace H := Option.bind_eq_some_iff.mp H
    obtain ⟨⟨t139, t140⟩, A40, H⟩ := H
    replace H : (if t139 = t137 then (if t140 = t138 then (some true) else (some false)) else (some false)) = some r := H
    have A4 := Aside0.mk A40
    clear A40
    by_cases c5 : t139 = t137
    · rw [if_pos c5] at H
      have c5b0 : (t139 == t137) = true := beq_iff_eq.mpr c5
      have c5b1 : (t139 != t137) = false := bne_eq_false_iff_eq.mpr c5
      clear c5
      by_cases c6 : t140 = t138
      · rw [if_pos c6] at H
        have c6b0 : (t140 == t138) = true := beq_iff_eq.mpr c6
        have c6b1 : (t140 != t138) = false := bne_eq_false_iff_eq.mpr c6
        clear c6
        obtain rfl := Option.some.inj H
        go_enter Tryd.func6, Tryd.ntmps6
        go_wp2_with (first | ((with_reducible refine gate_callee (f := 23) rfl ?_); refine goesL_ (some 12) rfl rfl Tryd.func23 (by kernel_rfl) rfl #[.string a0] rfl wT ?_; (with_reducible refine (spec_ReadAddr.calls k a0 t137 t138 _ A3.out).mono ?_); rintro e w1001 ⟨rfl, hb⟩; refine ⟨_, rfl, ?_⟩; have n0_ := Aside0.mk (below_step wB hb); clear HB; have HB := n0_; clear n0_; (try clear hb); (try clear hb2); (try clear hk); (try clear hi)) | ((with_reducible refine gate_callee (f := 14) rfl ?_); refine goesL_ (some 17) rfl rfl Tryd.func14 (by kernel_rfl) rfl #[.string a0] rfl wT ?_; (with_reducible refine (impl_ReadAddr.calls k a0 t139 t140 _ ?side1 A4.out).mono ?_); (case side1 => repeat (first | exact (Door.c_below HD.out HB.out) | (with_reducible refine Door.c_alloc ?_ _) | (with_reducible refine Door.c_drewN ?_ _) | (with_reducible refine Door.c_drew ?_))); rintro e w1002 ⟨rfl, hb⟩; refine ⟨_, rfl, ?_⟩; have n0_ := Aside0.mk (below_step wB hb); clear HB; have HB := n0_; clear n0_; (try clear hb); (try clear hb2); (try clear hk); (try clear hi)))
        go_ret
        exact ⟨by first | rfl | (simp [errW_none, errW_some] <;> rfl) | (simp [*, errW_none, errW_some] <;> rfl), wB⟩
      · rw [if_neg c6] at H
        have c6b0 : (t140 == t138) = false := beq_eq_false_iff_ne.mpr c6
        have c6b1 : (t140 != t138) = true := bne_iff_ne.mpr c6
        obtain rfl := Option.some.inj H
        go_enter Tryd.func6, Tryd.ntmps6
        go_wp2_with (first | ((with_reducible refine gate_callee (f := 23) rfl ?_); refine goesL_ (some 12) rfl rfl Tryd.func23 (by kernel_rfl) rfl #[.string a0] rfl wT ?_; (with_reducible refine (spec_ReadAddr.calls k a0 t137 t138 _ A3.out).mono ?_); rintro e w1001 ⟨rfl, hb⟩; refine ⟨_, rfl, ?_⟩; have n0_ := Aside0.mk (below_step wB hb); clear HB; have HB := n0_; clear n0_; (try clear hb); (try clear hb2); (try clear hk); (try clear hi)) | ((with_reducible refine gate_callee (f := 14) rfl ?_); refine goesL_ (some 17) rfl rfl Tryd.func14 (by kernel_rfl) rfl #[.string a0] rfl wT ?_; (with_reducible refine (impl_ReadAddr.calls k a0 t139 t140 _ ?side1 A4.out).mono ?_); (case side1 => repeat (first | exact (Door.c_below HD.out HB.out) | (with_reducible refine Door.c_alloc ?_ _) | (with_reducible refine Door.c_drewN ?_ _) | (with_reducible refine Door.c_drew ?_))); rintro e w1002 ⟨rfl, hb⟩; refine ⟨_, rfl, ?_⟩; have n0_ := Aside0.mk (below_step wB hb); clear HB; have HB := n0_; clear n0_; (try clear hb); (try clear hb2); (try clear hk); (try clear hi)))
        go_ret
        exact ⟨by first | rfl | (simp [errW_none, errW_some] <;> rfl) | (simp [*, errW_none, errW_some] <;> rfl), wB⟩
    · rw [if_neg c5] at H
      have c5b0 : (t139 == t137) = false := beq_eq_false_iff_ne.mpr c5
      have c5b1 : (t139 != t137) = true := bne_iff_ne.mpr c5
      obtain rfl := Option.some.inj H
      go_enter Tryd.func6, Tryd.ntmps6
      go_wp2_with (first | ((with_reducible refine gate_callee (f := 23) rfl ?_); refine goesL_ (some 12) rfl rfl Tryd.func23 (by kernel_rfl) rfl #[.string a0] rfl wT ?_; (with_reducible refine (spec_ReadAddr.calls k a0 t137 t138 _ A3.out).mono ?_); rintro e w1001 ⟨rfl, hb⟩; refine ⟨_, rfl, ?_⟩; have n0_ := Aside0.mk (below_step wB hb); clear HB; have HB := n0_; clear n0_; (try clear hb); (try clear hb2); (try clear hk); (try clear hi)) | ((with_reducible refine gate_callee (f := 14) rfl ?_); refine goesL_ (some 17) rfl rfl Tryd.func14 (by kernel_rfl) rfl #[.string a0] rfl wT ?_; (with_reducible refine (impl_ReadAddr.calls k a0 t139 t140 _ ?side1 A4.out).mono ?_); (case side1 => repeat (first | exact (Door.c_below HD.out HB.out) | (with_reducible refine Door.c_alloc ?_ _) | (with_reducible refine Door.c_drewN ?_ _) | (with_reducible refine Door.c_drew ?_))); rintro e w1002 ⟨rfl, hb⟩; refine ⟨_, rfl, ?_⟩; have n0_ := Aside0.mk (below_step wB hb); clear HB; have HB := n0_; clear n0_; (try clear hb); (try clear hb2); (try clear hk); (try clear hi)))
      go_ret
      exact ⟨by first | rfl | (simp [errW_none, errW_some] <;> rfl) | (simp [*, errW_none, errW_some] <;> rfl), wB⟩

/-- THE ONE PURE STATEMENT of laws_FnExactReadAddr: yours. -/
def laws_FnExactReadAddr.Pure : Prop := ∀ (a0 : ByteArray), a0.size ≤ 140737488351232 → ∃ k, laws_FnExactReadAddr.f k a0 = some true
theorem laws_FnExactReadAddr.walk (P : laws_FnExactReadAddr.Pure) (a0 : ByteArray) (w : World) (w0 : a0.size ≤ 140737488351232) (hdoor : Door w) :
    Calls Tryd.prog 6 #[.string a0] w fun e w' => e = .returned (.bool true) ∧ Below w.heap.size w w' := by
  obtain ⟨k, h⟩ := P a0 w0
  refine (laws_FnExactReadAddr.calls k a0 true w hdoor h).mono ?_
  rintro e w' ⟨rfl, hd⟩
  exact ⟨rfl, hd⟩

end Go.Proofs.YtnnplkhjmdbmbaaDoor.PFnExactReadAddr
