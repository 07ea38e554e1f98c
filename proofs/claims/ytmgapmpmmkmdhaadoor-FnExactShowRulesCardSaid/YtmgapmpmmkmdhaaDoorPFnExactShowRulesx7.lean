-- Written for this claim by a program of this session (wip/mkprint.py: the print, turned at a few places). Not trusted: Lean checks it.
import Derived.Test.YtmgapmpmmkmdhaaDoorPFnExactShowRulesx0
import Derived.Test.YtmgapmpmmkmdhaaDoorPFnExactShowRulesx5
namespace Go.Proofs.YtmgapmpmmkmdhaaDoor.PFnExactShowRules
open Go.RowKit Go.Proofs.YtmgapmpmmkmdhaaDoorW.PrintWords Go.Proofs.YtmgapmpmmkmdhaaDoorW.PrintLast Go.Proofs.YtmgapmpmmkmdhaaDoorW.PrintMore
attribute [local go_sem] max2_int min2_int max_two min_two max_three min_three max_four min_four   -- for this text's walks alone
set_option linter.unusedVariables false
set_option linter.unusedSimpArgs false

/-! ### strconv_FormatInt: function 36 -/
def strconv_FormatInt.f (a0 a1 : Int) : Option ByteArray := if a1 = 10 ∧ -9223372036854775808 ≤ a0 ∧ a0 ≤ 9223372036854775807 then some ⟨(Lib.itoa a0).toArray⟩ else none
theorem strconv_FormatInt.calls (a0 a1 : Int) (r : ByteArray) (w : World) (hd : Door w) (h : strconv_FormatInt.f a0 a1 = some r) :
    Calls Tryd.prog 36 #[.int .i64 a0, .int .i64 a1] w fun e w' => e = .returned (.string r) ∧ Below w.heap.size w w' := by
  unfold strconv_FormatInt.f at h
  split at h
  · rename_i hc
    obtain ⟨rfl, h0, h1⟩ := hc
    obtain rfl := Option.some.inj h
    refine (Tryd.strconv_FormatInt_10 a0 h0 h1 w hd.2.1).mono ?_
    rintro e w' ⟨rfl, k, os, rfl⟩
    exact ⟨rfl, below_grow_drewN w k os⟩
  · cases h


/-! ### strings_Join: function 39 -/
def strings_Join.f (l0 : List ByteArray) (a1 : ByteArray) : Option ByteArray := if l0.length ≤ 140737488355328 ∧ (Lib.join (l0.map (·.data.toList)) a1.data.toList).length ≤ 140737488355328 then some ⟨(Lib.join (l0.map (·.data.toList)) a1.data.toList).toArray⟩ else none
theorem strings_Join.calls (A0 : Option Addr) (c0 : Nat) (l0 : List ByteArray) (a1 : ByteArray) (r : ByteArray) (w : World) (hr0 : Kd.C Kd.string w A0 l0.length l0) (hc0 : l0.length ≤ c0) (h : strings_Join.f l0 a1 = some r) :
    Calls Tryd.prog 39 #[.slice A0 l0.length c0, .string a1] w fun e w' => e = .returned (.string r) ∧ Below w.heap.size w w' := by
  unfold strings_Join.f at h
  split at h
  · rename_i hc
    obtain rfl := Option.some.inj h
    rcases Nat.eq_zero_or_pos l0.length with h0 | h0
    · obtain rfl := List.length_eq_zero_iff.1 h0
      refine (Tryd.strings_Join_none A0 c0 a1 w).mono ?_
      rintro e w' ⟨rfl, rfl⟩
      exact ⟨rfl, Below.refl _ _⟩
    · obtain ⟨ad, rfl, hcell⟩ := hr0.2.2 h0
      have hget : ∀ (j : Nat) x, l0[j]? = some x → w.cell? (ad.add j) = some (.string x) := by
        intro j x hj
        obtain ⟨c, _, rfl, h2⟩ := hcell j x hj
        have := h2 0 _ rfl
        simpa [Kd.string, Kd.scalar] using this
      obtain ⟨bk, o, sp⟩ := ad
      have hz := hget 0 _ (List.getElem?_eq_getElem h0)
      have hsp : sp = none := by
        cases sp with
        | none => rfl
        | some s =>
          simp only [Addr.add, if_true, World.cell?] at hz
          split at hz <;> simp at hz
      subst hsp
      have hbk : bk < w.heap.size := World.block_lt_of_cell? w _ hz
      refine Tryd.strings_Join bk o c0 l0 a1 w (fun j x hj => ?_) hbk hc.1 hc0 hc.2
      have := hget j x hj
      unfold Addr.add at this
      split at this
      · rename_i hj0
        subst hj0
        exact this
      · exact this
  · cases h


/-! ### impl_ShowAddr: function 37 -/
def impl_ShowAddr.l0 : Nat → Int → List ByteArray → Int → Option (ByteArray × Int)
  | 0, _, _, _ => none
  | k + 1, x0, x4, x5 => if x5 ≥ 0 then (if 0 ≤ x5 then ((strconv_FormatInt.f (Go.bits .and .i64 (shr .i64 x0 x5) 255) 10).bind fun t200 => (if x4.length < 8796093022208 then (impl_ShowAddr.l0 k x0 (x4 ++ [t200]) (wrap64 (x5 - 8))) else (none))) else (none)) else ((strings_Join.f x4 (⟨#[46]⟩ : ByteArray)).bind fun t204 => (some (t204, 0)))
def impl_ShowAddr.f (k : Nat) (a0 : Int) : Option (ByteArray × Int) := (impl_isAddr.f a0).bind fun t199 => (if t199 = true then (impl_ShowAddr.l0 k a0 ([] : List ByteArray) 24) else (some ((⟨#[]⟩ : ByteArray), 1)))
theorem impl_ShowAddr.mono_l : ∀ k, (∀ y0 y1 y2, LeO (impl_ShowAddr.l0 k y0 y1 y2) (impl_ShowAddr.l0 (k + 1) y0 y1 y2))
  | 0 => fun _ _ _ r h => by simp [impl_ShowAddr.l0] at h
  | k + 1 => by
    have ih0 := impl_ShowAddr.mono_l k
    · intro y0 y1 y2
      unfold impl_ShowAddr.l0
      repeat' first
      | (with_reducible exact ih0 _ _ _)
      | (with_reducible exact LeO.refl _)
      | (with_reducible exact LeO.none _)
      | (with_reducible refine LeO.ite ?_ ?_)
      | (with_reducible refine LeO.bind ?_ (fun _ => ?_))
      | exact ih0 _ _ _
      | exact LeO.none _
      | refine LeO.ite ?_ ?_
      | refine LeO.bind ?_ (fun _ => ?_)
theorem impl_ShowAddr.mono : ∀ a0 k, LeO (impl_ShowAddr.f k a0) (impl_ShowAddr.f (k + 1) a0) := by
  intro a0 k
  have ih0 := impl_ShowAddr.mono_l k
  unfold impl_ShowAddr.f
  repeat' first
      | (with_reducible exact ih0 _ _ _)
      | (with_reducible exact LeO.refl _)
      | (with_reducible exact LeO.none _)
      | (with_reducible refine LeO.ite ?_ ?_)
      | (with_reducible refine LeO.bind ?_ (fun _ => ?_))
      | exact ih0 _ _ _
      | exact LeO.none _
      | refine LeO.ite ?_ ?_
      | refine LeO.bind ?_ (fun _ => ?_)
set_option maxHeartbeats 60000000 in
set_option maxRecDepth 100000 in
theorem impl_ShowAddr.calls (k : Nat) (a0 : Int) (r1 : ByteArray) (r2 : Int) (w : World) (hd : Door w) (h : impl_ShowAddr.f k a0 = some (r1, r2)) :
    Calls Tryd.prog 37 #[.int .i64 a0] w fun e w' => e = .returned (.tuple #[.string r1, .int .i64 r2]) ∧ Below w.heap.size w w' := by
  have HD := Aside0.mk hd
  clear hd
  have HB := Aside0.mk (Below.refl w.heap.size w)
  have H : ((impl_isAddr.f a0).bind fun t199 => (if t199 = true then (impl_ShowAddr.l0 k a0 ([] : List ByteArray) 24) else (some ((⟨#[]⟩ : ByteArray), 1)))) = some (r1, r2) := h
  clear h
  replace H := Option.bind_eq_some_iff.mp H
  obtain ⟨t199, A20, H⟩ := H
  replace H : (if t199 = true then (impl_ShowAddr.l0 k a0 ([] : List ByteArray) 24) else (some ((⟨#[]⟩ : ByteArray), 1))) = some (r1, r2) := H
  have A2 := Aside0.mk A20
  clear A20
  by_cases c3 : t199 = true
  · subst c3
    have H1 : (impl_ShowAddr.l0 k a0 ([] : List ByteArray) 24) = some (r1, r2) := by rw [if_pos rfl] at H; exact H
    clear H
    have H := H1
    clear H1
    have H' := Aside0.mk H
    clear H
    go_enter Tryd.func37, Tryd.ntmps37
    go_wp2_with (first | ((with_reducible refine gate_callee (f := 33) rfl ?_); refine goesL_ (some 7) rfl rfl Tryd.func33 (by kernel_rfl) rfl #[.int .i64 a0] rfl wT ?_; (with_reducible refine (impl_isAddr.calls a0 true _ A2.out).mono ?_); rintro e w' ⟨rfl, ⟨nd, rfl⟩⟩; refine ⟨_, rfl, ?_⟩))
    go_loopg [4, 5] k (fun kq v4 v5 w' => ∃ (x4_1 : List ByteArray) (x5_1 : Int), v5 = .int .i64 x5_1 ∧ Aside0 (impl_ShowAddr.l0 kq a0 x4_1 x5_1 = some (r1, r2)) ∧ Aside0 (kq ≤ k) ∧ Aside0 (Kd.R Kd.string 9 w' w.heap.size (fun _ => True) v4 x4_1) ∧ Aside0 (Below w.heap.size w w'))
    case atStart => exact ⟨(([] : List ByteArray)), (24), (by first | rfl | (simp; done) | (simp [*]; done)), H', ⟨Nat.le_refl _⟩, ⟨by first | exact Kd.R_nil _ _ _ _ _ | exact Kd.N_nil _ _ _ _ _ | exact Kd.V_nil _ _ _ _ _ | exact Kd.Q_nil _ _ _ _ _ | exact Kd.S_nil _ _ _ _ _⟩, ⟨wB⟩⟩
    case round =>
      clear H'
      try clear c3
      obtain ⟨x4_1, x5_1, rfl, HA, HK1, HO_4, HB⟩ := hrel
      cases gk with
      | zero => exact absurd HA.out (by simp [impl_ShowAddr.l0])
      | succ k1 =>
        have H := HA.out
        clear HA
        simp only [impl_ShowAddr.l0] at H
        by_cases c1001 : x5_1 ≥ 0
        · rw [if_pos c1001] at H
          have c1001b0 : decide (0 ≤ x5_1) = true := decide_eq_true c1001
          clear c1001
          by_cases c1002 : 0 ≤ x5_1
          · rw [if_pos c1002] at H
            have c1002b0 := eq_true c1002
            have c1002b1 : decide (0 ≤ x5_1) = true := decide_eq_true c1002
            clear c1002
            obtain ⟨ji1003, hji1003⟩ : ∃ j_ : Int, (shr .i64 a0 x5_1) = j_ := ⟨_, rfl⟩
            replace H : ((strconv_FormatInt.f (Go.bits .and .i64 (ji1003) 255) 10).bind fun t200 => (if x4_1.length < 8796093022208 then (impl_ShowAddr.l0 k1 a0 (x4_1 ++ [t200]) (wrap64 (x5_1 - 8))) else (none))) = some (r1, r2) := by first | (rw [hji1003] at H; exact H) | (simp only [hji1003] at H ⊢; exact H)
            have hji1003_ : (a0 / 2 ^ min x5_1.toNat 64) = ji1003 := hji1003
            have hji1003z : x5_1 ≤ 64 → (a0 / 2 ^ x5_1.toNat) = ji1003 := shr_small hji1003
            replace H := Option.bind_eq_some_iff.mp H
            obtain ⟨t200, A10040, H⟩ := H
            replace H : (if x4_1.length < 8796093022208 then (impl_ShowAddr.l0 k1 a0 (x4_1 ++ [t200]) (wrap64 (x5_1 - 8))) else (none)) = some (r1, r2) := H
            have A1004 := Aside0.mk A10040
            clear A10040
            by_cases c1005 : x4_1.length < 8796093022208
            · rw [if_pos c1005] at H
              have LMc1005 := Aside0.mk c1005
              clear c1005
              obtain ⟨y201, hy201⟩ : ∃ y_ : List ByteArray, y_ = (x4_1 ++ [t200]) := ⟨_, rfl⟩
              replace H : (impl_ShowAddr.l0 k1 a0 y201 (wrap64 (x5_1 - 8))) = some (r1, r2) := by first | (rw [hy201]; with_reducible exact H) | (have H2_ := (Option.bind_some _ _).symm.trans H; rw [hy201]; with_reducible exact H2_) | (have H2_ := (Option.bind_some _ _).symm.trans H; with_reducible exact H2_) | with_reducible exact H | (rw [hy201]; exact H) | exact H
              have Ny201 := Aside0.mk hy201
              clear hy201
              have H' := Aside0.mk H
              clear H
              go_wp2_with (first | ((with_reducible refine gate_callee (f := 36) rfl ?_); refine goesL_ (some 18) rfl rfl Tryd.func36 (by kernel_rfl) rfl #[.int .i64 (Go.bits .and .i64 (ji1003) 255), .int .i64 10] rfl (by (try simp only [List.map_toArray, List.map_cons, List.map_nil]); first | done | (simp only [hji1003]; rfl) | rfl | (simp only [List.length_drop, List.length_take]; rfl)) ?_; (with_reducible refine (strconv_FormatInt.calls (Go.bits .and .i64 (ji1003) 255) 10 t200 _ ?side1 A1004.out).mono ?_); (case side1 => repeat (first | exact (Door.c_below HD.out HB.out) | (with_reducible refine Door.c_alloc ?_ _) | (with_reducible refine Door.c_drewN ?_ _) | (with_reducible refine Door.c_drew ?_))); rintro e w2001 ⟨rfl, hb⟩; refine ⟨_, rfl, ?_⟩; have n0_ := Aside0.mk (Kd.R_below (Rh HO_4) hb); have n1_ := Aside0.mk (below_step wB hb); clear HO_4; clear HB; have HO_4 := n0_; have HB := n1_; clear n0_ n1_; (try clear hb); (try clear hb2); (try clear hk); (try clear hi)) | ((with_reducible refine gate_builtin (b := .append) (xs := #[.tmp 13, .tmp 19]) rfl ?_); at_builtin; refine Kd.R_append Kd.string (w0 := w) w.heap.size rfl (.tmp 13) (.tmp 19) 47 9 (.string ⟨#[]⟩) 16 rfl Tryd.underlying47 info9 rfl (by decide) (by omega) u4 x4_1 t200 [.string t200] (fun _ => True) (fun _ => False) rfl rfl ?aP (fun _ hk => hk.elim) ?aF ?aO ?aB ?aS ?aL ?_; (case aP => exact rfl); (case aB => exact wB); (case aF => exact (fun _ _ => trivial)); (case aO => exact (Rh HO_4)); (case aS => exact (below_size wB)); (case aL => have := LMc1005.out; omega); intro v202 w2002 ho hb hg hat; rw [← Ny201.out] at ho; have n0_ := Aside0.mk (hb); have n1_ := Aside0.mk (ho); clear HB; clear HO_4; have HB := n0_; have HO203 := n1_; clear n0_ n1_; clear ho hb hg hat))
              go_roundg k1
              case measure => have := HK1.out; omega
              case rel => exact ⟨(y201), (wrap64 (x5_1 - 8)), (by first | rfl | (simp; done) | (simp [*]; done)), H', ⟨by have := HK1.out; omega⟩, ⟨Rh HO203⟩, ⟨wB⟩⟩
            · rw [if_neg c1005] at H
              exact absurd H (by simp)
          · rw [if_neg c1002] at H
            exact absurd H (by simp)
        · rw [if_neg c1001] at H
          have c1001b0 : decide (0 ≤ x5_1) = false := decide_eq_false c1001
          clear c1001
          replace H := Option.bind_eq_some_iff.mp H
          obtain ⟨t204, A10060, H⟩ := H
          replace H : (some (t204, 0)) = some (r1, r2) := H
          have A1006 := Aside0.mk A10060
          clear A10060
          simp only [Option.some.injEq, Prod.mk.injEq] at H
          obtain ⟨rfl, rfl⟩ := H
          obtain ⟨Ao2001, co2001, eo2001⟩ := Kd.R_slice HO_4.out
          subst eo2001
          go_wp2_with (first | ((with_reducible refine gate_callee (f := 39) rfl ?_); refine goesL_ (some 22) rfl rfl Tryd.func39 (by kernel_rfl) rfl #[.slice Ao2001 x4_1.length co2001, .string (⟨#[46]⟩ : ByteArray)] rfl wT ?_; (with_reducible refine (strings_Join.calls _ _ x4_1 (⟨#[46]⟩ : ByteArray) t204 _ ?side1 ?side2 A1006.out).mono ?_); (case side1 => exact Ch HO_4); (case side2 => exact (Kd.R_reads' HO_4.out).2.1); rintro e w2002 ⟨rfl, hb⟩; refine ⟨_, rfl, ?_⟩; have n0_ := Aside0.mk (Kd.R_below (Rh HO_4) hb); have n1_ := Aside0.mk (below_step wB hb); clear HO_4; clear HB; have HO_4 := n0_; have HB := n1_; clear n0_ n1_; (try clear hb); (try clear hb2); (try clear hk); (try clear hi)))
          go_ret2
          exact ⟨by first | rfl | (simp [errW_none, errW_some] <;> rfl) | (simp [*, errW_none, errW_some] <;> rfl), wB⟩
  · replace c3 := Bool.eq_false_iff.mpr c3
    subst c3
    have H1 : (some ((⟨#[]⟩ : ByteArray), 1)) = some (r1, r2) := by rw [if_neg (show ¬ (false = true) by decide)] at H; exact H
    clear H
    have H := H1
    clear H1
    simp only [Option.some.injEq, Prod.mk.injEq] at H
    obtain ⟨rfl, rfl⟩ := H
    go_enter Tryd.func37, Tryd.ntmps37
    go_wp2_with (first | ((with_reducible refine gate_callee (f := 33) rfl ?_); refine goesL_ (some 7) rfl rfl Tryd.func33 (by kernel_rfl) rfl #[.int .i64 a0] rfl wT ?_; (with_reducible refine (impl_isAddr.calls a0 false _ A2.out).mono ?_); rintro e w' ⟨rfl, ⟨nd, rfl⟩⟩; refine ⟨_, rfl, ?_⟩))
    go_ret2
    exact ⟨by first | rfl | (simp [errW_none, errW_some] <;> rfl) | (simp [*, errW_none, errW_some] <;> rfl), wB⟩

/-! ### impl_ShowPrefix: function 35 -/
def impl_ShowPrefix.f (k : Nat) (a0_0 : Int) (a0_1 : Int) : Option (ByteArray × Int) := (impl_okPrefix.f a0_0 a0_1).bind fun t206 => (if t206 = true then ((impl_ShowAddr.f k a0_0).bind fun bt207 => (if bt207.1.size + 1 ≤ 9223372036854775807 then ((strconv_FormatInt.f a0_1 10).bind fun t209 => (if (bt207.1 ++ (⟨#[47]⟩ : ByteArray)).size + t209.size ≤ 9223372036854775807 then (some ((bt207.1 ++ (⟨#[47]⟩ : ByteArray)) ++ t209, 0)) else (none))) else (none))) else (some ((⟨#[]⟩ : ByteArray), 1)))
theorem impl_ShowPrefix.mono : ∀ a0 a1 k, LeO (impl_ShowPrefix.f k a0 a1) (impl_ShowPrefix.f (k + 1) a0 a1) := by
  intro a0 a1 k
  unfold impl_ShowPrefix.f
  repeat' first
      | (with_reducible exact impl_ShowAddr.mono _ _)
      | (with_reducible exact LeO.refl _)
      | (with_reducible exact LeO.none _)
      | (with_reducible refine LeO.ite ?_ ?_)
      | (with_reducible refine LeO.bind ?_ (fun _ => ?_))
      | exact impl_ShowAddr.mono _ _
      | exact LeO.none _
      | refine LeO.ite ?_ ?_
      | refine LeO.bind ?_ (fun _ => ?_)
set_option maxHeartbeats 60000000 in
set_option maxRecDepth 100000 in
theorem impl_ShowPrefix.calls (k : Nat) (a0_0 : Int) (a0_1 : Int) (r1 : ByteArray) (r2 : Int) (w : World) (hd : Door w) (h : impl_ShowPrefix.f k a0_0 a0_1 = some (r1, r2)) :
    Calls Tryd.prog 35 #[.agg #[.int .i64 a0_0, .int .i64 a0_1]] w fun e w' => e = .returned (.tuple #[.string r1, .int .i64 r2]) ∧ Below w.heap.size w w' := by
  have hu31 := Tryd.underlying31
  have HD := Aside0.mk hd
  clear hd
  have HB := Aside0.mk (Below.refl w.heap.size w)
  have H : ((impl_okPrefix.f a0_0 a0_1).bind fun t206 => (if t206 = true then ((impl_ShowAddr.f k a0_0).bind fun bt207 => (if bt207.1.size + 1 ≤ 9223372036854775807 then ((strconv_FormatInt.f a0_1 10).bind fun t209 => (if (bt207.1 ++ (⟨#[47]⟩ : ByteArray)).size + t209.size ≤ 9223372036854775807 then (some ((bt207.1 ++ (⟨#[47]⟩ : ByteArray)) ++ t209, 0)) else (none))) else (none))) else (some ((⟨#[]⟩ : ByteArray), 1)))) = some (r1, r2) := h
  clear h
  replace H := Option.bind_eq_some_iff.mp H
  obtain ⟨t206, A20, H⟩ := H
  replace H : (if t206 = true then ((impl_ShowAddr.f k a0_0).bind fun bt207 => (if bt207.1.size + 1 ≤ 9223372036854775807 then ((strconv_FormatInt.f a0_1 10).bind fun t209 => (if (bt207.1 ++ (⟨#[47]⟩ : ByteArray)).size + t209.size ≤ 9223372036854775807 then (some ((bt207.1 ++ (⟨#[47]⟩ : ByteArray)) ++ t209, 0)) else (none))) else (none))) else (some ((⟨#[]⟩ : ByteArray), 1))) = some (r1, r2) := H
  have A2 := Aside0.mk A20
  clear A20
  by_cases c3 : t206 = true
  · subst c3
    have H1 : ((impl_ShowAddr.f k a0_0).bind fun bt207 => (if bt207.1.size + 1 ≤ 9223372036854775807 then ((strconv_FormatInt.f a0_1 10).bind fun t209 => (if (bt207.1 ++ (⟨#[47]⟩ : ByteArray)).size + t209.size ≤ 9223372036854775807 then (some ((bt207.1 ++ (⟨#[47]⟩ : ByteArray)) ++ t209, 0)) else (none))) else (none))) = some (r1, r2) := by rw [if_pos rfl] at H; exact H
    clear H
    have H := H1
    clear H1
    replace H := Option.bind_eq_some_iff.mp H
    obtain ⟨⟨t207, t208⟩, A40, H⟩ := H
    replace H : (if t207.size + 1 ≤ 9223372036854775807 then ((strconv_FormatInt.f a0_1 10).bind fun t209 => (if (t207 ++ (⟨#[47]⟩ : ByteArray)).size + t209.size ≤ 9223372036854775807 then (some ((t207 ++ (⟨#[47]⟩ : ByteArray)) ++ t209, 0)) else (none))) else (none)) = some (r1, r2) := H
    have A4 := Aside0.mk A40
    clear A40
    by_cases c5 : t207.size + 1 ≤ 9223372036854775807
    · rw [if_pos c5] at H
      have c5b0 := eq_true c5
      have c5b1 : decide (t207.size + 1 ≤ 9223372036854775807) = true := decide_eq_true c5
      try have c5b2 : (9223372036854775807 < t207.size + 1) = False := eq_false (Nat.not_lt.2 c5)
      replace H := Option.bind_eq_some_iff.mp H
      obtain ⟨t209, A60, H⟩ := H
      replace H : (if (t207 ++ (⟨#[47]⟩ : ByteArray)).size + t209.size ≤ 9223372036854775807 then (some ((t207 ++ (⟨#[47]⟩ : ByteArray)) ++ t209, 0)) else (none)) = some (r1, r2) := H
      have A6 := Aside0.mk A60
      clear A60
      by_cases c7 : (t207 ++ (⟨#[47]⟩ : ByteArray)).size + t209.size ≤ 9223372036854775807
      · rw [if_pos c7] at H
        have c7b0 := eq_true c7
        have c7b1 : decide ((t207 ++ (⟨#[47]⟩ : ByteArray)).size + t209.size ≤ 9223372036854775807) = true := decide_eq_true c7
        try have c7b2 : (9223372036854775807 < (t207 ++ (⟨#[47]⟩ : ByteArray)).size + t209.size) = False := eq_false (Nat.not_lt.2 c7)
        (try (have c7b5 := c7b2; simp only [ByteArray.size_append, show (⟨#[47]⟩ : ByteArray).size = 1 from rfl] at c7b5))
        simp only [Option.some.injEq, Prod.mk.injEq] at H
        obtain ⟨rfl, rfl⟩ := H
        go_enter Tryd.func35, Tryd.ntmps35
        go_wp2_with (first | ((with_reducible refine gate_dst (N := 1) rfl ?_); refine box_event ?hg (N := 1) ?hd (cs := #[.int .i64 a0_0, .int .i64 a0_1]) (t := 31) ?hr ?_; (case hd => rfl); (case hg => rfl); (case hr => first | (go_simp; done) | (go_simp; rfl)); intro gb205 hg w1001 hbox hb; have n0_ := Aside0.mk (below_step wB hb); have n1_ := Aside0.mk (hbox); have n2_ := Aside0.mk ((by rw [hg]; exact (below_size wB) : w.heap.size ≤ gb205)); have n3_ := Aside0.mk ((by rw [hg]; exact (below_size wB) : w.heap.size ≤ gb205)); clear HB; have HB := n0_; have BK205 := n1_; have GW205 := n2_; have GE205 := n3_; clear n0_ n1_ n2_ n3_; clear hb hbox hg; obtain ⟨⟨hcz1002_0, hcz1002_1⟩, hfz1002_0, hfz1002_1⟩ := cells2 BK205.out) | ((with_reducible refine gate_callee (f := 25) rfl ?_); refine goesL_ (some 7) rfl rfl Tryd.func25 (by kernel_rfl) rfl #[.agg #[.int .i64 a0_0, .int .i64 a0_1]] rfl wT ?_; (with_reducible refine (impl_okPrefix.calls a0_0 a0_1 true _ A2.out).mono ?_); rintro e w1003 ⟨rfl, hb⟩; refine ⟨_, rfl, ?_⟩; have n0_ := Aside0.mk (blk_below (Bh BK205) hb); have n1_ := Aside0.mk (below_step wB hb); clear BK205; clear HB; have BK205 := n0_; have HB := n1_; clear n0_ n1_; (try clear hb); (try clear hb2); (try clear hk); (try clear hi); obtain ⟨⟨hcz1004_0, hcz1004_1⟩, hfz1004_0, hfz1004_1⟩ := cells2 BK205.out) | ((with_reducible refine gate_callee (f := 37) rfl ?_); refine goesL_ (some 12) rfl rfl Tryd.func37 (by kernel_rfl) rfl #[.int .i64 a0_0] rfl wT ?_; (with_reducible refine (impl_ShowAddr.calls k a0_0 t207 t208 _ ?side1 A4.out).mono ?_); (case side1 => repeat (first | exact (Door.c_below HD.out HB.out) | (with_reducible refine Door.c_alloc ?_ _) | (with_reducible refine Door.c_drewN ?_ _) | (with_reducible refine Door.c_drew ?_))); rintro e w1005 ⟨rfl, hb⟩; refine ⟨_, rfl, ?_⟩; have n0_ := Aside0.mk (blk_below (Bh BK205) hb); have n1_ := Aside0.mk (below_step wB hb); clear BK205; clear HB; have BK205 := n0_; have HB := n1_; clear n0_ n1_; (try clear hb); (try clear hb2); (try clear hk); (try clear hi); obtain ⟨⟨hcz1006_0, hcz1006_1⟩, hfz1006_0, hfz1006_1⟩ := cells2 BK205.out) | ((with_reducible refine gate_callee (f := 36) rfl ?_); refine goesL_ (some 19) rfl rfl Tryd.func36 (by kernel_rfl) rfl #[.int .i64 a0_1, .int .i64 10] rfl wT ?_; (with_reducible refine (strconv_FormatInt.calls a0_1 10 t209 _ ?side1 A6.out).mono ?_); (case side1 => repeat (first | exact (Door.c_below HD.out HB.out) | (with_reducible refine Door.c_alloc ?_ _) | (with_reducible refine Door.c_drewN ?_ _) | (with_reducible refine Door.c_drew ?_))); rintro e w1007 ⟨rfl, hb⟩; refine ⟨_, rfl, ?_⟩; have n0_ := Aside0.mk (blk_below (Bh BK205) hb); have n1_ := Aside0.mk (below_step wB hb); clear BK205; clear HB; have BK205 := n0_; have HB := n1_; clear n0_ n1_; (try clear hb); (try clear hb2); (try clear hk); (try clear hi)))
        go_ret2
        exact ⟨by first | rfl | (simp [errW_none, errW_some] <;> rfl) | (simp [*, errW_none, errW_some] <;> rfl), wB⟩
      · rw [if_neg c7] at H
        exact absurd H (by simp)
    · rw [if_neg c5] at H
      exact absurd H (by simp)
  · replace c3 := Bool.eq_false_iff.mpr c3
    subst c3
    have H1 : (some ((⟨#[]⟩ : ByteArray), 1)) = some (r1, r2) := by rw [if_neg (show ¬ (false = true) by decide)] at H; exact H
    clear H
    have H := H1
    clear H1
    simp only [Option.some.injEq, Prod.mk.injEq] at H
    obtain ⟨rfl, rfl⟩ := H
    go_enter Tryd.func35, Tryd.ntmps35
    go_wp2_with (first | ((with_reducible refine gate_dst (N := 1) rfl ?_); refine box_event ?hg (N := 1) ?hd (cs := #[.int .i64 a0_0, .int .i64 a0_1]) (t := 31) ?hr ?_; (case hd => rfl); (case hg => rfl); (case hr => first | (go_simp; done) | (go_simp; rfl)); intro gb205 hg w1001 hbox hb; have n0_ := Aside0.mk (below_step wB hb); have n1_ := Aside0.mk (hbox); have n2_ := Aside0.mk ((by rw [hg]; exact (below_size wB) : w.heap.size ≤ gb205)); have n3_ := Aside0.mk ((by rw [hg]; exact (below_size wB) : w.heap.size ≤ gb205)); clear HB; have HB := n0_; have BK205 := n1_; have GW205 := n2_; have GE205 := n3_; clear n0_ n1_ n2_ n3_; clear hb hbox hg; obtain ⟨⟨hcz1002_0, hcz1002_1⟩, hfz1002_0, hfz1002_1⟩ := cells2 BK205.out) | ((with_reducible refine gate_callee (f := 25) rfl ?_); refine goesL_ (some 7) rfl rfl Tryd.func25 (by kernel_rfl) rfl #[.agg #[.int .i64 a0_0, .int .i64 a0_1]] rfl wT ?_; (with_reducible refine (impl_okPrefix.calls a0_0 a0_1 false _ A2.out).mono ?_); rintro e w1003 ⟨rfl, hb⟩; refine ⟨_, rfl, ?_⟩; have n0_ := Aside0.mk (blk_below (Bh BK205) hb); have n1_ := Aside0.mk (below_step wB hb); clear BK205; clear HB; have BK205 := n0_; have HB := n1_; clear n0_ n1_; (try clear hb); (try clear hb2); (try clear hk); (try clear hi)))
    go_ret2
    exact ⟨by first | rfl | (simp [errW_none, errW_some] <;> rfl) | (simp [*, errW_none, errW_some] <;> rfl), wB⟩

/-! ### impl_showSide: function 27 -/
set_option maxHeartbeats 60000000 in
set_option maxRecDepth 100000 in
theorem impl_showSide.any_none (k : Nat) (a0 : ByteArray) (w : World) (hd : Door w) (hs : a0.size ≤ 100) :
    Calls Tryd.prog 27 #[.string a0, .agg #[.int .i64 0, .int .i64 0], .int .i64 0, .int .i64 65535] w fun e w' => e = .returned (.string (((⟨#[32]⟩ : ByteArray) ++ a0) ++ (⟨#[32, 97, 110, 121]⟩ : ByteArray))) ∧ Below w.heap.size w w' := by
  have hu31 := Tryd.underlying31
  have HD := Aside0.mk hd
  have z0 : (9223372036854775807 < 1 + a0.size) = False := eq_false (by omega)
  have z1 : (9223372036854775807 < 1 + a0.size + 4) = False := eq_false (by omega)
  have HB := Aside0.mk (Below.refl w.heap.size w)
  clear hd
  go_enter Tryd.func27, Tryd.ntmps27
  go_wp2_with (first
      | ((with_reducible refine gate_dst (N := 5) rfl ?_); refine box_event ?hg (N := 5) ?hd (cs := #[.int .i64 0, .int .i64 0]) (t := 31) ?hr ?_; (case hd => rfl); (case hg => rfl); (case hr => first | (go_simp; done) | (go_simp; rfl)); intro gb hg w1 hbox hb; have B1 := Aside0.mk (below_step HB.out hb); have BK := Aside0.mk hbox; obtain ⟨hev0, hev1⟩ := (Door.c_below HD.out B1.out).2.2.2.2.2.2; clear hb hbox hg; obtain ⟨⟨hcz_0, hcz_1⟩, hfz_0, hfz_1⟩ := cells2 BK.out))
  go_ret
  exact ⟨by first | rfl | (simp; done) | (simp [*]; done), B1.out⟩
set_option maxHeartbeats 60000000 in
set_option maxRecDepth 100000 in
theorem impl_showSide.any_one (k : Nat) (a0 : ByteArray) (lo : Int) (u : ByteArray) (w : World) (hd : Door w) (hs : a0.size ≤ 100) (eu : strconv_FormatInt.f lo 10 = some u) (hu : u.size ≤ 100000) :
    Calls Tryd.prog 27 #[.string a0, .agg #[.int .i64 0, .int .i64 0], .int .i64 lo, .int .i64 lo] w fun e w' => e = .returned (.string ((((⟨#[32]⟩ : ByteArray) ++ a0) ++ (⟨#[32, 97, 110, 121]⟩ : ByteArray)) ++ ((⟨#[32, 112, 111, 114, 116, 32]⟩ : ByteArray) ++ u))) ∧ Below w.heap.size w w' := by
  have hu31 := Tryd.underlying31
  have HD := Aside0.mk hd
  have z0 : (9223372036854775807 < 1 + a0.size) = False := eq_false (by omega)
  have z1 : (9223372036854775807 < 1 + a0.size + 4) = False := eq_false (by omega)
  have z2 : (9223372036854775807 < 6 + u.size) = False := eq_false (by omega)
  have z3 : (9223372036854775807 < 1 + a0.size + 4 + (6 + u.size)) = False := eq_false (by omega)
  have EU := Aside0.mk eu
  have HB := Aside0.mk (Below.refl w.heap.size w)
  clear hd eu
  by_cases c0 : lo = 0
  · subst c0
    go_enter Tryd.func27, Tryd.ntmps27
    go_wp2_with (first
        | ((with_reducible refine gate_dst (N := 5) rfl ?_); refine box_event ?hg (N := 5) ?hd (cs := #[.int .i64 0, .int .i64 0]) (t := 31) ?hr ?_; (case hd => rfl); (case hg => rfl); (case hr => first | (go_simp; done) | (go_simp; rfl)); intro gb hg w1 hbox hb; have B1 := Aside0.mk (below_step HB.out hb); have BK := Aside0.mk hbox; obtain ⟨hev0, hev1⟩ := (Door.c_below HD.out B1.out).2.2.2.2.2.2; clear hb hbox hg; obtain ⟨⟨hcz_0, hcz_1⟩, hfz_0, hfz_1⟩ := cells2 BK.out)
        | ((with_reducible refine gate_callee (f := 36) rfl ?_); refine goesL_ (some 36) rfl rfl Tryd.func36 (by kernel_rfl) rfl #[.int .i64 0, .int .i64 10] rfl wT ?_; (with_reducible refine (strconv_FormatInt.calls 0 10 u _ ?side1 EU.out).mono ?_); (case side1 => exact Door.c_below HD.out B1.out); rintro e w3 ⟨rfl, hb⟩; refine ⟨_, rfl, ?_⟩; have B3 := Aside0.mk (below_step B1.out hb); clear hb))
    go_ret
    exact ⟨by first | rfl | (simp; done) | (simp [*]; done), B3.out⟩
  · skip
    have f0lo0 : (lo == 0) = false := by simpa using c0
    have f1lo0 : (lo != 0) = true := by simpa using c0
    have f2lo0 : decide (lo = 0) = false := decide_eq_false c0
    go_enter Tryd.func27, Tryd.ntmps27
    go_wp2_with (first
        | ((with_reducible refine gate_dst (N := 5) rfl ?_); refine box_event ?hg (N := 5) ?hd (cs := #[.int .i64 0, .int .i64 0]) (t := 31) ?hr ?_; (case hd => rfl); (case hg => rfl); (case hr => first | (go_simp; done) | (go_simp; rfl)); intro gb hg w1 hbox hb; have B1 := Aside0.mk (below_step HB.out hb); have BK := Aside0.mk hbox; obtain ⟨hev0, hev1⟩ := (Door.c_below HD.out B1.out).2.2.2.2.2.2; clear hb hbox hg; obtain ⟨⟨hcz_0, hcz_1⟩, hfz_0, hfz_1⟩ := cells2 BK.out)
        | ((with_reducible refine gate_callee (f := 36) rfl ?_); refine goesL_ (some 36) rfl rfl Tryd.func36 (by kernel_rfl) rfl #[.int .i64 lo, .int .i64 10] rfl wT ?_; (with_reducible refine (strconv_FormatInt.calls lo 10 u _ ?side1 EU.out).mono ?_); (case side1 => exact Door.c_below HD.out B1.out); rintro e w3 ⟨rfl, hb⟩; refine ⟨_, rfl, ?_⟩; have B3 := Aside0.mk (below_step B1.out hb); clear hb))
    go_ret
    exact ⟨by first | rfl | (simp; done) | (simp [*]; done), B3.out⟩
set_option maxHeartbeats 60000000 in
set_option maxRecDepth 100000 in
theorem impl_showSide.any_two (k : Nat) (a0 : ByteArray) (lo : Int) (u : ByteArray) (hi : Int) (v : ByteArray) (w : World) (hd : Door w) (hs : a0.size ≤ 100) (eu : strconv_FormatInt.f lo 10 = some u) (hu : u.size ≤ 100000) (hne : ¬ hi = lo) (hq : ¬ (lo = 0 ∧ hi = 65535)) (ev : strconv_FormatInt.f hi 10 = some v) (hv : v.size ≤ 100000) :
    Calls Tryd.prog 27 #[.string a0, .agg #[.int .i64 0, .int .i64 0], .int .i64 lo, .int .i64 hi] w fun e w' => e = .returned (.string (((((⟨#[32]⟩ : ByteArray) ++ a0) ++ (⟨#[32, 97, 110, 121]⟩ : ByteArray)) ++ ((⟨#[32, 112, 111, 114, 116, 32]⟩ : ByteArray) ++ u)) ++ ((⟨#[45]⟩ : ByteArray) ++ v))) ∧ Below w.heap.size w w' := by
  have hu31 := Tryd.underlying31
  have HD := Aside0.mk hd
  have z0 : (9223372036854775807 < 1 + a0.size) = False := eq_false (by omega)
  have z1 : (9223372036854775807 < 1 + a0.size + 4) = False := eq_false (by omega)
  have z2 : (9223372036854775807 < 6 + u.size) = False := eq_false (by omega)
  have z3 : (9223372036854775807 < 1 + a0.size + 4 + (6 + u.size)) = False := eq_false (by omega)
  have z4 : (9223372036854775807 < 1 + v.size) = False := eq_false (by omega)
  have z5 : (9223372036854775807 < 1 + a0.size + 4 + (6 + u.size) + (1 + v.size)) = False := eq_false (by omega)
  have EU := Aside0.mk eu
  have EV := Aside0.mk ev
  have HB := Aside0.mk (Below.refl w.heap.size w)
  clear hd eu ev
  by_cases c0 : lo = 0
  · subst c0
    have c1 : ¬ hi = 65535 := fun h_ => hq ⟨rfl, h_⟩
    have f0hi65535 : (hi == 65535) = false := by simpa using c1
    have f1hi65535 : (hi != 65535) = true := by simpa using c1
    have f2hi65535 : decide (hi = 65535) = false := decide_eq_false c1
    have f0hi0 : (hi == 0) = false := by simpa using hne
    have f1hi0 : (hi != 0) = true := by simpa using hne
    have f2hi0 : decide (hi = 0) = false := decide_eq_false hne
    go_enter Tryd.func27, Tryd.ntmps27
    go_wp2_with (first
        | ((with_reducible refine gate_dst (N := 5) rfl ?_); refine box_event ?hg (N := 5) ?hd (cs := #[.int .i64 0, .int .i64 0]) (t := 31) ?hr ?_; (case hd => rfl); (case hg => rfl); (case hr => first | (go_simp; done) | (go_simp; rfl)); intro gb hg w1 hbox hb; have B1 := Aside0.mk (below_step HB.out hb); have BK := Aside0.mk hbox; obtain ⟨hev0, hev1⟩ := (Door.c_below HD.out B1.out).2.2.2.2.2.2; clear hb hbox hg; obtain ⟨⟨hcz_0, hcz_1⟩, hfz_0, hfz_1⟩ := cells2 BK.out)
        | ((with_reducible refine gate_callee (f := 36) rfl ?_); refine goesL_ (some 36) rfl rfl Tryd.func36 (by kernel_rfl) rfl #[.int .i64 0, .int .i64 10] rfl wT ?_; (with_reducible refine (strconv_FormatInt.calls 0 10 u _ ?side1 EU.out).mono ?_); (case side1 => exact Door.c_below HD.out B1.out); rintro e w3 ⟨rfl, hb⟩; refine ⟨_, rfl, ?_⟩; have B3 := Aside0.mk (below_step B1.out hb); clear hb)
        | ((with_reducible refine gate_callee (f := 36) rfl ?_); refine goesL_ (some 44) rfl rfl Tryd.func36 (by kernel_rfl) rfl #[.int .i64 hi, .int .i64 10] rfl wT ?_; (with_reducible refine (strconv_FormatInt.calls hi 10 v _ ?side1 EV.out).mono ?_); (case side1 => exact Door.c_below HD.out B3.out); rintro e w4 ⟨rfl, hb⟩; refine ⟨_, rfl, ?_⟩; have B4 := Aside0.mk (below_step B3.out hb); clear hb))
    go_ret
    exact ⟨by first | rfl | (simp; done) | (simp [*]; done), B4.out⟩
  · skip
    have f0lo0 : (lo == 0) = false := by simpa using c0
    have f1lo0 : (lo != 0) = true := by simpa using c0
    have f2lo0 : decide (lo = 0) = false := decide_eq_false c0
    have f3 : (hi == lo) = false := by simpa using hne
    have f4 : (hi != lo) = true := by simpa using hne
    have f5 : decide (hi = lo) = false := decide_eq_false hne
    go_enter Tryd.func27, Tryd.ntmps27
    go_wp2_with (first
        | ((with_reducible refine gate_dst (N := 5) rfl ?_); refine box_event ?hg (N := 5) ?hd (cs := #[.int .i64 0, .int .i64 0]) (t := 31) ?hr ?_; (case hd => rfl); (case hg => rfl); (case hr => first | (go_simp; done) | (go_simp; rfl)); intro gb hg w1 hbox hb; have B1 := Aside0.mk (below_step HB.out hb); have BK := Aside0.mk hbox; obtain ⟨hev0, hev1⟩ := (Door.c_below HD.out B1.out).2.2.2.2.2.2; clear hb hbox hg; obtain ⟨⟨hcz_0, hcz_1⟩, hfz_0, hfz_1⟩ := cells2 BK.out)
        | ((with_reducible refine gate_callee (f := 36) rfl ?_); refine goesL_ (some 36) rfl rfl Tryd.func36 (by kernel_rfl) rfl #[.int .i64 lo, .int .i64 10] rfl wT ?_; (with_reducible refine (strconv_FormatInt.calls lo 10 u _ ?side1 EU.out).mono ?_); (case side1 => exact Door.c_below HD.out B1.out); rintro e w3 ⟨rfl, hb⟩; refine ⟨_, rfl, ?_⟩; have B3 := Aside0.mk (below_step B1.out hb); clear hb)
        | ((with_reducible refine gate_callee (f := 36) rfl ?_); refine goesL_ (some 44) rfl rfl Tryd.func36 (by kernel_rfl) rfl #[.int .i64 hi, .int .i64 10] rfl wT ?_; (with_reducible refine (strconv_FormatInt.calls hi 10 v _ ?side1 EV.out).mono ?_); (case side1 => exact Door.c_below HD.out B3.out); rintro e w4 ⟨rfl, hb⟩; refine ⟨_, rfl, ?_⟩; have B4 := Aside0.mk (below_step B3.out hb); clear hb))
    go_ret
    exact ⟨by first | rfl | (simp; done) | (simp [*]; done), B4.out⟩
set_option maxHeartbeats 60000000 in
set_option maxRecDepth 100000 in
theorem impl_showSide.pre_none (k : Nat) (a0 : ByteArray) (x y : Int) (t : ByteArray) (c : Int) (w : World) (hd : Door w) (hs : a0.size ≤ 100) (hxy : ¬ (x = 0 ∧ y = 0)) (ep : impl_ShowPrefix.f k x y = some (t, c)) (ht : t.size ≤ 1000000) :
    Calls Tryd.prog 27 #[.string a0, .agg #[.int .i64 x, .int .i64 y], .int .i64 0, .int .i64 65535] w fun e w' => e = .returned (.string ((((⟨#[32]⟩ : ByteArray) ++ a0) ++ (⟨#[32]⟩ : ByteArray)) ++ t)) ∧ Below w.heap.size w w' := by
  have hu31 := Tryd.underlying31
  have HD := Aside0.mk hd
  have z0 : (9223372036854775807 < 1 + a0.size) = False := eq_false (by omega)
  have z1 : (9223372036854775807 < 1 + a0.size + 4) = False := eq_false (by omega)
  have z2 : (9223372036854775807 < 1 + a0.size + 1) = False := eq_false (by omega)
  have z3 : (9223372036854775807 < 1 + a0.size + 1 + t.size) = False := eq_false (by omega)
  have EP := Aside0.mk ep
  have HB := Aside0.mk (Below.refl w.heap.size w)
  clear hd ep
  by_cases d0 : x = 0
  · subst d0
    have d1 : ¬ y = 0 := fun h_ => hxy ⟨rfl, h_⟩
    clear hxy
    have f0y0 : (y == 0) = false := by simpa using d1
    have f1y0 : (y != 0) = true := by simpa using d1
    have f2y0 : decide (y = 0) = false := decide_eq_false d1
    go_enter Tryd.func27, Tryd.ntmps27
    go_wp2_with (first
        | ((with_reducible refine gate_dst (N := 5) rfl ?_); refine box_event ?hg (N := 5) ?hd (cs := #[.int .i64 0, .int .i64 y]) (t := 31) ?hr ?_; (case hd => rfl); (case hg => rfl); (case hr => first | (go_simp; done) | (go_simp; rfl)); intro gb hg w1 hbox hb; have B1 := Aside0.mk (below_step HB.out hb); have BK := Aside0.mk hbox; obtain ⟨hev0, hev1⟩ := (Door.c_below HD.out B1.out).2.2.2.2.2.2; clear hb hbox hg; obtain ⟨⟨hcz_0, hcz_1⟩, hfz_0, hfz_1⟩ := cells2 BK.out)
        | ((with_reducible refine gate_callee (f := 35) rfl ?_); refine goesL_ (some 20) rfl rfl Tryd.func35 (by kernel_rfl) rfl #[.agg #[.int .i64 0, .int .i64 y]] rfl wT ?_; (with_reducible refine (impl_ShowPrefix.calls k 0 y t c _ ?side1 EP.out).mono ?_); (case side1 => exact Door.c_below HD.out B1.out); rintro e w2 ⟨rfl, hb⟩; refine ⟨_, rfl, ?_⟩; have B2 := Aside0.mk (below_step B1.out hb); clear hb))
    go_ret
    exact ⟨by first | rfl | (simp; done) | (simp [*]; done), B2.out⟩
  · clear hxy
    have f0x0 : (x == 0) = false := by simpa using d0
    have f1x0 : (x != 0) = true := by simpa using d0
    have f2x0 : decide (x = 0) = false := decide_eq_false d0
    go_enter Tryd.func27, Tryd.ntmps27
    go_wp2_with (first
        | ((with_reducible refine gate_dst (N := 5) rfl ?_); refine box_event ?hg (N := 5) ?hd (cs := #[.int .i64 x, .int .i64 y]) (t := 31) ?hr ?_; (case hd => rfl); (case hg => rfl); (case hr => first | (go_simp; done) | (go_simp; rfl)); intro gb hg w1 hbox hb; have B1 := Aside0.mk (below_step HB.out hb); have BK := Aside0.mk hbox; obtain ⟨hev0, hev1⟩ := (Door.c_below HD.out B1.out).2.2.2.2.2.2; clear hb hbox hg; obtain ⟨⟨hcz_0, hcz_1⟩, hfz_0, hfz_1⟩ := cells2 BK.out)
        | ((with_reducible refine gate_callee (f := 35) rfl ?_); refine goesL_ (some 20) rfl rfl Tryd.func35 (by kernel_rfl) rfl #[.agg #[.int .i64 x, .int .i64 y]] rfl wT ?_; (with_reducible refine (impl_ShowPrefix.calls k x y t c _ ?side1 EP.out).mono ?_); (case side1 => exact Door.c_below HD.out B1.out); rintro e w2 ⟨rfl, hb⟩; refine ⟨_, rfl, ?_⟩; have B2 := Aside0.mk (below_step B1.out hb); clear hb))
    go_ret
    exact ⟨by first | rfl | (simp; done) | (simp [*]; done), B2.out⟩
set_option maxHeartbeats 60000000 in
set_option maxRecDepth 100000 in
theorem impl_showSide.pre_one (k : Nat) (a0 : ByteArray) (x y : Int) (t : ByteArray) (c : Int) (lo : Int) (u : ByteArray) (w : World) (hd : Door w) (hs : a0.size ≤ 100) (hxy : ¬ (x = 0 ∧ y = 0)) (ep : impl_ShowPrefix.f k x y = some (t, c)) (ht : t.size ≤ 1000000) (eu : strconv_FormatInt.f lo 10 = some u) (hu : u.size ≤ 100000) :
    Calls Tryd.prog 27 #[.string a0, .agg #[.int .i64 x, .int .i64 y], .int .i64 lo, .int .i64 lo] w fun e w' => e = .returned (.string (((((⟨#[32]⟩ : ByteArray) ++ a0) ++ (⟨#[32]⟩ : ByteArray)) ++ t) ++ ((⟨#[32, 112, 111, 114, 116, 32]⟩ : ByteArray) ++ u))) ∧ Below w.heap.size w w' := by
  have hu31 := Tryd.underlying31
  have HD := Aside0.mk hd
  have z0 : (9223372036854775807 < 1 + a0.size) = False := eq_false (by omega)
  have z1 : (9223372036854775807 < 1 + a0.size + 4) = False := eq_false (by omega)
  have z2 : (9223372036854775807 < 1 + a0.size + 1) = False := eq_false (by omega)
  have z3 : (9223372036854775807 < 1 + a0.size + 1 + t.size) = False := eq_false (by omega)
  have z4 : (9223372036854775807 < 6 + u.size) = False := eq_false (by omega)
  have z5 : (9223372036854775807 < 1 + a0.size + 1 + t.size + (6 + u.size)) = False := eq_false (by omega)
  have EP := Aside0.mk ep
  have EU := Aside0.mk eu
  have HB := Aside0.mk (Below.refl w.heap.size w)
  clear hd ep eu
  by_cases d0 : x = 0
  · subst d0
    have d1 : ¬ y = 0 := fun h_ => hxy ⟨rfl, h_⟩
    clear hxy
    by_cases c0 : lo = 0
    · subst c0
      have f0y0 : (y == 0) = false := by simpa using d1
      have f1y0 : (y != 0) = true := by simpa using d1
      have f2y0 : decide (y = 0) = false := decide_eq_false d1
      go_enter Tryd.func27, Tryd.ntmps27
      go_wp2_with (first
          | ((with_reducible refine gate_dst (N := 5) rfl ?_); refine box_event ?hg (N := 5) ?hd (cs := #[.int .i64 0, .int .i64 y]) (t := 31) ?hr ?_; (case hd => rfl); (case hg => rfl); (case hr => first | (go_simp; done) | (go_simp; rfl)); intro gb hg w1 hbox hb; have B1 := Aside0.mk (below_step HB.out hb); have BK := Aside0.mk hbox; obtain ⟨hev0, hev1⟩ := (Door.c_below HD.out B1.out).2.2.2.2.2.2; clear hb hbox hg; obtain ⟨⟨hcz_0, hcz_1⟩, hfz_0, hfz_1⟩ := cells2 BK.out)
          | ((with_reducible refine gate_callee (f := 35) rfl ?_); refine goesL_ (some 20) rfl rfl Tryd.func35 (by kernel_rfl) rfl #[.agg #[.int .i64 0, .int .i64 y]] rfl wT ?_; (with_reducible refine (impl_ShowPrefix.calls k 0 y t c _ ?side1 EP.out).mono ?_); (case side1 => exact Door.c_below HD.out B1.out); rintro e w2 ⟨rfl, hb⟩; refine ⟨_, rfl, ?_⟩; have B2 := Aside0.mk (below_step B1.out hb); clear hb)
          | ((with_reducible refine gate_callee (f := 36) rfl ?_); refine goesL_ (some 36) rfl rfl Tryd.func36 (by kernel_rfl) rfl #[.int .i64 0, .int .i64 10] rfl wT ?_; (with_reducible refine (strconv_FormatInt.calls 0 10 u _ ?side1 EU.out).mono ?_); (case side1 => exact Door.c_below HD.out B2.out); rintro e w3 ⟨rfl, hb⟩; refine ⟨_, rfl, ?_⟩; have B3 := Aside0.mk (below_step B2.out hb); clear hb))
      go_ret
      exact ⟨by first | rfl | (simp; done) | (simp [*]; done), B3.out⟩
    · skip
      have f0y0 : (y == 0) = false := by simpa using d1
      have f1y0 : (y != 0) = true := by simpa using d1
      have f2y0 : decide (y = 0) = false := decide_eq_false d1
      have f0lo0 : (lo == 0) = false := by simpa using c0
      have f1lo0 : (lo != 0) = true := by simpa using c0
      have f2lo0 : decide (lo = 0) = false := decide_eq_false c0
      go_enter Tryd.func27, Tryd.ntmps27
      go_wp2_with (first
          | ((with_reducible refine gate_dst (N := 5) rfl ?_); refine box_event ?hg (N := 5) ?hd (cs := #[.int .i64 0, .int .i64 y]) (t := 31) ?hr ?_; (case hd => rfl); (case hg => rfl); (case hr => first | (go_simp; done) | (go_simp; rfl)); intro gb hg w1 hbox hb; have B1 := Aside0.mk (below_step HB.out hb); have BK := Aside0.mk hbox; obtain ⟨hev0, hev1⟩ := (Door.c_below HD.out B1.out).2.2.2.2.2.2; clear hb hbox hg; obtain ⟨⟨hcz_0, hcz_1⟩, hfz_0, hfz_1⟩ := cells2 BK.out)
          | ((with_reducible refine gate_callee (f := 35) rfl ?_); refine goesL_ (some 20) rfl rfl Tryd.func35 (by kernel_rfl) rfl #[.agg #[.int .i64 0, .int .i64 y]] rfl wT ?_; (with_reducible refine (impl_ShowPrefix.calls k 0 y t c _ ?side1 EP.out).mono ?_); (case side1 => exact Door.c_below HD.out B1.out); rintro e w2 ⟨rfl, hb⟩; refine ⟨_, rfl, ?_⟩; have B2 := Aside0.mk (below_step B1.out hb); clear hb)
          | ((with_reducible refine gate_callee (f := 36) rfl ?_); refine goesL_ (some 36) rfl rfl Tryd.func36 (by kernel_rfl) rfl #[.int .i64 lo, .int .i64 10] rfl wT ?_; (with_reducible refine (strconv_FormatInt.calls lo 10 u _ ?side1 EU.out).mono ?_); (case side1 => exact Door.c_below HD.out B2.out); rintro e w3 ⟨rfl, hb⟩; refine ⟨_, rfl, ?_⟩; have B3 := Aside0.mk (below_step B2.out hb); clear hb))
      go_ret
      exact ⟨by first | rfl | (simp; done) | (simp [*]; done), B3.out⟩
  · clear hxy
    by_cases c0 : lo = 0
    · subst c0
      have f0x0 : (x == 0) = false := by simpa using d0
      have f1x0 : (x != 0) = true := by simpa using d0
      have f2x0 : decide (x = 0) = false := decide_eq_false d0
      go_enter Tryd.func27, Tryd.ntmps27
      go_wp2_with (first
          | ((with_reducible refine gate_dst (N := 5) rfl ?_); refine box_event ?hg (N := 5) ?hd (cs := #[.int .i64 x, .int .i64 y]) (t := 31) ?hr ?_; (case hd => rfl); (case hg => rfl); (case hr => first | (go_simp; done) | (go_simp; rfl)); intro gb hg w1 hbox hb; have B1 := Aside0.mk (below_step HB.out hb); have BK := Aside0.mk hbox; obtain ⟨hev0, hev1⟩ := (Door.c_below HD.out B1.out).2.2.2.2.2.2; clear hb hbox hg; obtain ⟨⟨hcz_0, hcz_1⟩, hfz_0, hfz_1⟩ := cells2 BK.out)
          | ((with_reducible refine gate_callee (f := 35) rfl ?_); refine goesL_ (some 20) rfl rfl Tryd.func35 (by kernel_rfl) rfl #[.agg #[.int .i64 x, .int .i64 y]] rfl wT ?_; (with_reducible refine (impl_ShowPrefix.calls k x y t c _ ?side1 EP.out).mono ?_); (case side1 => exact Door.c_below HD.out B1.out); rintro e w2 ⟨rfl, hb⟩; refine ⟨_, rfl, ?_⟩; have B2 := Aside0.mk (below_step B1.out hb); clear hb)
          | ((with_reducible refine gate_callee (f := 36) rfl ?_); refine goesL_ (some 36) rfl rfl Tryd.func36 (by kernel_rfl) rfl #[.int .i64 0, .int .i64 10] rfl wT ?_; (with_reducible refine (strconv_FormatInt.calls 0 10 u _ ?side1 EU.out).mono ?_); (case side1 => exact Door.c_below HD.out B2.out); rintro e w3 ⟨rfl, hb⟩; refine ⟨_, rfl, ?_⟩; have B3 := Aside0.mk (below_step B2.out hb); clear hb))
      go_ret
      exact ⟨by first | rfl | (simp; done) | (simp [*]; done), B3.out⟩
    · skip
      have f0x0 : (x == 0) = false := by simpa using d0
      have f1x0 : (x != 0) = true := by simpa using d0
      have f2x0 : decide (x = 0) = false := decide_eq_false d0
      have f0lo0 : (lo == 0) = false := by simpa using c0
      have f1lo0 : (lo != 0) = true := by simpa using c0
      have f2lo0 : decide (lo = 0) = false := decide_eq_false c0
      go_enter Tryd.func27, Tryd.ntmps27
      go_wp2_with (first
          | ((with_reducible refine gate_dst (N := 5) rfl ?_); refine box_event ?hg (N := 5) ?hd (cs := #[.int .i64 x, .int .i64 y]) (t := 31) ?hr ?_; (case hd => rfl); (case hg => rfl); (case hr => first | (go_simp; done) | (go_simp; rfl)); intro gb hg w1 hbox hb; have B1 := Aside0.mk (below_step HB.out hb); have BK := Aside0.mk hbox; obtain ⟨hev0, hev1⟩ := (Door.c_below HD.out B1.out).2.2.2.2.2.2; clear hb hbox hg; obtain ⟨⟨hcz_0, hcz_1⟩, hfz_0, hfz_1⟩ := cells2 BK.out)
          | ((with_reducible refine gate_callee (f := 35) rfl ?_); refine goesL_ (some 20) rfl rfl Tryd.func35 (by kernel_rfl) rfl #[.agg #[.int .i64 x, .int .i64 y]] rfl wT ?_; (with_reducible refine (impl_ShowPrefix.calls k x y t c _ ?side1 EP.out).mono ?_); (case side1 => exact Door.c_below HD.out B1.out); rintro e w2 ⟨rfl, hb⟩; refine ⟨_, rfl, ?_⟩; have B2 := Aside0.mk (below_step B1.out hb); clear hb)
          | ((with_reducible refine gate_callee (f := 36) rfl ?_); refine goesL_ (some 36) rfl rfl Tryd.func36 (by kernel_rfl) rfl #[.int .i64 lo, .int .i64 10] rfl wT ?_; (with_reducible refine (strconv_FormatInt.calls lo 10 u _ ?side1 EU.out).mono ?_); (case side1 => exact Door.c_below HD.out B2.out); rintro e w3 ⟨rfl, hb⟩; refine ⟨_, rfl, ?_⟩; have B3 := Aside0.mk (below_step B2.out hb); clear hb))
      go_ret
      exact ⟨by first | rfl | (simp; done) | (simp [*]; done), B3.out⟩
set_option maxHeartbeats 60000000 in
set_option maxRecDepth 100000 in
theorem impl_showSide.pre_two (k : Nat) (a0 : ByteArray) (x y : Int) (t : ByteArray) (c : Int) (lo : Int) (u : ByteArray) (hi : Int) (v : ByteArray) (w : World) (hd : Door w) (hs : a0.size ≤ 100) (hxy : ¬ (x = 0 ∧ y = 0)) (ep : impl_ShowPrefix.f k x y = some (t, c)) (ht : t.size ≤ 1000000) (eu : strconv_FormatInt.f lo 10 = some u) (hu : u.size ≤ 100000) (hne : ¬ hi = lo) (hq : ¬ (lo = 0 ∧ hi = 65535)) (ev : strconv_FormatInt.f hi 10 = some v) (hv : v.size ≤ 100000) :
    Calls Tryd.prog 27 #[.string a0, .agg #[.int .i64 x, .int .i64 y], .int .i64 lo, .int .i64 hi] w fun e w' => e = .returned (.string ((((((⟨#[32]⟩ : ByteArray) ++ a0) ++ (⟨#[32]⟩ : ByteArray)) ++ t) ++ ((⟨#[32, 112, 111, 114, 116, 32]⟩ : ByteArray) ++ u)) ++ ((⟨#[45]⟩ : ByteArray) ++ v))) ∧ Below w.heap.size w w' := by
  have hu31 := Tryd.underlying31
  have HD := Aside0.mk hd
  have z0 : (9223372036854775807 < 1 + a0.size) = False := eq_false (by omega)
  have z1 : (9223372036854775807 < 1 + a0.size + 4) = False := eq_false (by omega)
  have z2 : (9223372036854775807 < 1 + a0.size + 1) = False := eq_false (by omega)
  have z3 : (9223372036854775807 < 1 + a0.size + 1 + t.size) = False := eq_false (by omega)
  have z4 : (9223372036854775807 < 6 + u.size) = False := eq_false (by omega)
  have z5 : (9223372036854775807 < 1 + a0.size + 1 + t.size + (6 + u.size)) = False := eq_false (by omega)
  have z6 : (9223372036854775807 < 1 + v.size) = False := eq_false (by omega)
  have z7 : (9223372036854775807 < 1 + a0.size + 1 + t.size + (6 + u.size) + (1 + v.size)) = False := eq_false (by omega)
  have EP := Aside0.mk ep
  have EU := Aside0.mk eu
  have EV := Aside0.mk ev
  have HB := Aside0.mk (Below.refl w.heap.size w)
  clear hd ep eu ev
  by_cases d0 : x = 0
  · subst d0
    have d1 : ¬ y = 0 := fun h_ => hxy ⟨rfl, h_⟩
    clear hxy
    by_cases c0 : lo = 0
    · subst c0
      have f0y0 : (y == 0) = false := by simpa using d1
      have f1y0 : (y != 0) = true := by simpa using d1
      have f2y0 : decide (y = 0) = false := decide_eq_false d1
      have c1 : ¬ hi = 65535 := fun h_ => hq ⟨rfl, h_⟩
      have f0hi65535 : (hi == 65535) = false := by simpa using c1
      have f1hi65535 : (hi != 65535) = true := by simpa using c1
      have f2hi65535 : decide (hi = 65535) = false := decide_eq_false c1
      have f0hi0 : (hi == 0) = false := by simpa using hne
      have f1hi0 : (hi != 0) = true := by simpa using hne
      have f2hi0 : decide (hi = 0) = false := decide_eq_false hne
      go_enter Tryd.func27, Tryd.ntmps27
      go_wp2_with (first
          | ((with_reducible refine gate_dst (N := 5) rfl ?_); refine box_event ?hg (N := 5) ?hd (cs := #[.int .i64 0, .int .i64 y]) (t := 31) ?hr ?_; (case hd => rfl); (case hg => rfl); (case hr => first | (go_simp; done) | (go_simp; rfl)); intro gb hg w1 hbox hb; have B1 := Aside0.mk (below_step HB.out hb); have BK := Aside0.mk hbox; obtain ⟨hev0, hev1⟩ := (Door.c_below HD.out B1.out).2.2.2.2.2.2; clear hb hbox hg; obtain ⟨⟨hcz_0, hcz_1⟩, hfz_0, hfz_1⟩ := cells2 BK.out)
          | ((with_reducible refine gate_callee (f := 35) rfl ?_); refine goesL_ (some 20) rfl rfl Tryd.func35 (by kernel_rfl) rfl #[.agg #[.int .i64 0, .int .i64 y]] rfl wT ?_; (with_reducible refine (impl_ShowPrefix.calls k 0 y t c _ ?side1 EP.out).mono ?_); (case side1 => exact Door.c_below HD.out B1.out); rintro e w2 ⟨rfl, hb⟩; refine ⟨_, rfl, ?_⟩; have B2 := Aside0.mk (below_step B1.out hb); clear hb)
          | ((with_reducible refine gate_callee (f := 36) rfl ?_); refine goesL_ (some 36) rfl rfl Tryd.func36 (by kernel_rfl) rfl #[.int .i64 0, .int .i64 10] rfl wT ?_; (with_reducible refine (strconv_FormatInt.calls 0 10 u _ ?side1 EU.out).mono ?_); (case side1 => exact Door.c_below HD.out B2.out); rintro e w3 ⟨rfl, hb⟩; refine ⟨_, rfl, ?_⟩; have B3 := Aside0.mk (below_step B2.out hb); clear hb)
          | ((with_reducible refine gate_callee (f := 36) rfl ?_); refine goesL_ (some 44) rfl rfl Tryd.func36 (by kernel_rfl) rfl #[.int .i64 hi, .int .i64 10] rfl wT ?_; (with_reducible refine (strconv_FormatInt.calls hi 10 v _ ?side1 EV.out).mono ?_); (case side1 => exact Door.c_below HD.out B3.out); rintro e w4 ⟨rfl, hb⟩; refine ⟨_, rfl, ?_⟩; have B4 := Aside0.mk (below_step B3.out hb); clear hb))
      go_ret
      exact ⟨by first | rfl | (simp; done) | (simp [*]; done), B4.out⟩
    · skip
      have f0y0 : (y == 0) = false := by simpa using d1
      have f1y0 : (y != 0) = true := by simpa using d1
      have f2y0 : decide (y = 0) = false := decide_eq_false d1
      have f0lo0 : (lo == 0) = false := by simpa using c0
      have f1lo0 : (lo != 0) = true := by simpa using c0
      have f2lo0 : decide (lo = 0) = false := decide_eq_false c0
      have f3 : (hi == lo) = false := by simpa using hne
      have f4 : (hi != lo) = true := by simpa using hne
      have f5 : decide (hi = lo) = false := decide_eq_false hne
      go_enter Tryd.func27, Tryd.ntmps27
      go_wp2_with (first
          | ((with_reducible refine gate_dst (N := 5) rfl ?_); refine box_event ?hg (N := 5) ?hd (cs := #[.int .i64 0, .int .i64 y]) (t := 31) ?hr ?_; (case hd => rfl); (case hg => rfl); (case hr => first | (go_simp; done) | (go_simp; rfl)); intro gb hg w1 hbox hb; have B1 := Aside0.mk (below_step HB.out hb); have BK := Aside0.mk hbox; obtain ⟨hev0, hev1⟩ := (Door.c_below HD.out B1.out).2.2.2.2.2.2; clear hb hbox hg; obtain ⟨⟨hcz_0, hcz_1⟩, hfz_0, hfz_1⟩ := cells2 BK.out)
          | ((with_reducible refine gate_callee (f := 35) rfl ?_); refine goesL_ (some 20) rfl rfl Tryd.func35 (by kernel_rfl) rfl #[.agg #[.int .i64 0, .int .i64 y]] rfl wT ?_; (with_reducible refine (impl_ShowPrefix.calls k 0 y t c _ ?side1 EP.out).mono ?_); (case side1 => exact Door.c_below HD.out B1.out); rintro e w2 ⟨rfl, hb⟩; refine ⟨_, rfl, ?_⟩; have B2 := Aside0.mk (below_step B1.out hb); clear hb)
          | ((with_reducible refine gate_callee (f := 36) rfl ?_); refine goesL_ (some 36) rfl rfl Tryd.func36 (by kernel_rfl) rfl #[.int .i64 lo, .int .i64 10] rfl wT ?_; (with_reducible refine (strconv_FormatInt.calls lo 10 u _ ?side1 EU.out).mono ?_); (case side1 => exact Door.c_below HD.out B2.out); rintro e w3 ⟨rfl, hb⟩; refine ⟨_, rfl, ?_⟩; have B3 := Aside0.mk (below_step B2.out hb); clear hb)
          | ((with_reducible refine gate_callee (f := 36) rfl ?_); refine goesL_ (some 44) rfl rfl Tryd.func36 (by kernel_rfl) rfl #[.int .i64 hi, .int .i64 10] rfl wT ?_; (with_reducible refine (strconv_FormatInt.calls hi 10 v _ ?side1 EV.out).mono ?_); (case side1 => exact Door.c_below HD.out B3.out); rintro e w4 ⟨rfl, hb⟩; refine ⟨_, rfl, ?_⟩; have B4 := Aside0.mk (below_step B3.out hb); clear hb))
      go_ret
      exact ⟨by first | rfl | (simp; done) | (simp [*]; done), B4.out⟩
  · clear hxy
    by_cases c0 : lo = 0
    · subst c0
      have f0x0 : (x == 0) = false := by simpa using d0
      have f1x0 : (x != 0) = true := by simpa using d0
      have f2x0 : decide (x = 0) = false := decide_eq_false d0
      have c1 : ¬ hi = 65535 := fun h_ => hq ⟨rfl, h_⟩
      have f0hi65535 : (hi == 65535) = false := by simpa using c1
      have f1hi65535 : (hi != 65535) = true := by simpa using c1
      have f2hi65535 : decide (hi = 65535) = false := decide_eq_false c1
      have f0hi0 : (hi == 0) = false := by simpa using hne
      have f1hi0 : (hi != 0) = true := by simpa using hne
      have f2hi0 : decide (hi = 0) = false := decide_eq_false hne
      go_enter Tryd.func27, Tryd.ntmps27
      go_wp2_with (first
          | ((with_reducible refine gate_dst (N := 5) rfl ?_); refine box_event ?hg (N := 5) ?hd (cs := #[.int .i64 x, .int .i64 y]) (t := 31) ?hr ?_; (case hd => rfl); (case hg => rfl); (case hr => first | (go_simp; done) | (go_simp; rfl)); intro gb hg w1 hbox hb; have B1 := Aside0.mk (below_step HB.out hb); have BK := Aside0.mk hbox; obtain ⟨hev0, hev1⟩ := (Door.c_below HD.out B1.out).2.2.2.2.2.2; clear hb hbox hg; obtain ⟨⟨hcz_0, hcz_1⟩, hfz_0, hfz_1⟩ := cells2 BK.out)
          | ((with_reducible refine gate_callee (f := 35) rfl ?_); refine goesL_ (some 20) rfl rfl Tryd.func35 (by kernel_rfl) rfl #[.agg #[.int .i64 x, .int .i64 y]] rfl wT ?_; (with_reducible refine (impl_ShowPrefix.calls k x y t c _ ?side1 EP.out).mono ?_); (case side1 => exact Door.c_below HD.out B1.out); rintro e w2 ⟨rfl, hb⟩; refine ⟨_, rfl, ?_⟩; have B2 := Aside0.mk (below_step B1.out hb); clear hb)
          | ((with_reducible refine gate_callee (f := 36) rfl ?_); refine goesL_ (some 36) rfl rfl Tryd.func36 (by kernel_rfl) rfl #[.int .i64 0, .int .i64 10] rfl wT ?_; (with_reducible refine (strconv_FormatInt.calls 0 10 u _ ?side1 EU.out).mono ?_); (case side1 => exact Door.c_below HD.out B2.out); rintro e w3 ⟨rfl, hb⟩; refine ⟨_, rfl, ?_⟩; have B3 := Aside0.mk (below_step B2.out hb); clear hb)
          | ((with_reducible refine gate_callee (f := 36) rfl ?_); refine goesL_ (some 44) rfl rfl Tryd.func36 (by kernel_rfl) rfl #[.int .i64 hi, .int .i64 10] rfl wT ?_; (with_reducible refine (strconv_FormatInt.calls hi 10 v _ ?side1 EV.out).mono ?_); (case side1 => exact Door.c_below HD.out B3.out); rintro e w4 ⟨rfl, hb⟩; refine ⟨_, rfl, ?_⟩; have B4 := Aside0.mk (below_step B3.out hb); clear hb))
      go_ret
      exact ⟨by first | rfl | (simp; done) | (simp [*]; done), B4.out⟩
    · skip
      have f0x0 : (x == 0) = false := by simpa using d0
      have f1x0 : (x != 0) = true := by simpa using d0
      have f2x0 : decide (x = 0) = false := decide_eq_false d0
      have f0lo0 : (lo == 0) = false := by simpa using c0
      have f1lo0 : (lo != 0) = true := by simpa using c0
      have f2lo0 : decide (lo = 0) = false := decide_eq_false c0
      have f3 : (hi == lo) = false := by simpa using hne
      have f4 : (hi != lo) = true := by simpa using hne
      have f5 : decide (hi = lo) = false := decide_eq_false hne
      go_enter Tryd.func27, Tryd.ntmps27
      go_wp2_with (first
          | ((with_reducible refine gate_dst (N := 5) rfl ?_); refine box_event ?hg (N := 5) ?hd (cs := #[.int .i64 x, .int .i64 y]) (t := 31) ?hr ?_; (case hd => rfl); (case hg => rfl); (case hr => first | (go_simp; done) | (go_simp; rfl)); intro gb hg w1 hbox hb; have B1 := Aside0.mk (below_step HB.out hb); have BK := Aside0.mk hbox; obtain ⟨hev0, hev1⟩ := (Door.c_below HD.out B1.out).2.2.2.2.2.2; clear hb hbox hg; obtain ⟨⟨hcz_0, hcz_1⟩, hfz_0, hfz_1⟩ := cells2 BK.out)
          | ((with_reducible refine gate_callee (f := 35) rfl ?_); refine goesL_ (some 20) rfl rfl Tryd.func35 (by kernel_rfl) rfl #[.agg #[.int .i64 x, .int .i64 y]] rfl wT ?_; (with_reducible refine (impl_ShowPrefix.calls k x y t c _ ?side1 EP.out).mono ?_); (case side1 => exact Door.c_below HD.out B1.out); rintro e w2 ⟨rfl, hb⟩; refine ⟨_, rfl, ?_⟩; have B2 := Aside0.mk (below_step B1.out hb); clear hb)
          | ((with_reducible refine gate_callee (f := 36) rfl ?_); refine goesL_ (some 36) rfl rfl Tryd.func36 (by kernel_rfl) rfl #[.int .i64 lo, .int .i64 10] rfl wT ?_; (with_reducible refine (strconv_FormatInt.calls lo 10 u _ ?side1 EU.out).mono ?_); (case side1 => exact Door.c_below HD.out B2.out); rintro e w3 ⟨rfl, hb⟩; refine ⟨_, rfl, ?_⟩; have B3 := Aside0.mk (below_step B2.out hb); clear hb)
          | ((with_reducible refine gate_callee (f := 36) rfl ?_); refine goesL_ (some 44) rfl rfl Tryd.func36 (by kernel_rfl) rfl #[.int .i64 hi, .int .i64 10] rfl wT ?_; (with_reducible refine (strconv_FormatInt.calls hi 10 v _ ?side1 EV.out).mono ?_); (case side1 => exact Door.c_below HD.out B3.out); rintro e w4 ⟨rfl, hb⟩; refine ⟨_, rfl, ?_⟩; have B4 := Aside0.mk (below_step B3.out hb); clear hb))
      go_ret
      exact ⟨by first | rfl | (simp; done) | (simp [*]; done), B4.out⟩
def impl_showSide.f (k : Nat) (a0 : ByteArray) (a1_0 a1_1 a2 a3 : Int) : Option ByteArray :=
  if a0.size ≤ 100 then
    ((if a1_0 = 0 ∧ a1_1 = 0 then some (((⟨#[32]⟩ : ByteArray) ++ a0) ++ (⟨#[32, 97, 110, 121]⟩ : ByteArray)) else (impl_ShowPrefix.f k a1_0 a1_1).bind fun t => if t.1.size ≤ 1000000 then some ((((⟨#[32]⟩ : ByteArray) ++ a0) ++ (⟨#[32]⟩ : ByteArray)) ++ t.1) else none) : Option ByteArray).bind fun s =>
    if a2 = 0 ∧ a3 = 65535 then some s else
    (strconv_FormatInt.f a2 10).bind fun u => if u.size ≤ 100000 then
      (if a3 = a2 then some (s ++ ((⟨#[32, 112, 111, 114, 116, 32]⟩ : ByteArray) ++ u)) else (strconv_FormatInt.f a3 10).bind fun v => if v.size ≤ 100000 then some ((s ++ ((⟨#[32, 112, 111, 114, 116, 32]⟩ : ByteArray) ++ u)) ++ ((⟨#[45]⟩ : ByteArray) ++ v)) else none)
      else none
  else none
theorem impl_showSide.mono : ∀ a0 a1_0 a1_1 a2 a3 k, LeO (impl_showSide.f k a0 a1_0 a1_1 a2 a3) (impl_showSide.f (k + 1) a0 a1_0 a1_1 a2 a3) := by
  intro a0 a1_0 a1_1 a2 a3 k
  unfold impl_showSide.f
  repeat' first
      | (with_reducible exact impl_ShowPrefix.mono _ _ _)
      | (with_reducible exact LeO.refl _)
      | (with_reducible exact LeO.none _)
      | (with_reducible refine LeO.ite ?_ ?_)
      | (with_reducible refine LeO.bind ?_ (fun _ => ?_))
      | exact impl_ShowPrefix.mono _ _ _
      | exact LeO.none _
      | refine LeO.ite ?_ ?_
      | refine LeO.bind ?_ (fun _ => ?_)
theorem impl_showSide.calls (k : Nat) (a0 : ByteArray) (a1_0 a1_1 a2 a3 : Int) (r : ByteArray) (w : World) (hd : Door w) (h : impl_showSide.f k a0 a1_0 a1_1 a2 a3 = some r) :
    Calls Tryd.prog 27 #[.string a0, .agg #[.int .i64 a1_0, .int .i64 a1_1], .int .i64 a2, .int .i64 a3] w fun e w' => e = .returned (.string r) ∧ Below w.heap.size w w' := by
  unfold impl_showSide.f at h
  by_cases hs : a0.size ≤ 100
  · rw [if_pos hs] at h
    replace h := Option.bind_eq_some_iff.mp h
    obtain ⟨s, e1, h⟩ := h
    by_cases hp : a1_0 = 0 ∧ a1_1 = 0
    · rw [if_pos hp] at e1
      obtain rfl := Option.some.inj e1
      obtain ⟨rfl, rfl⟩ := hp
      by_cases hq : a2 = 0 ∧ a3 = 65535
      · rw [if_pos hq] at h
        obtain rfl := Option.some.inj h
        obtain ⟨rfl, rfl⟩ := hq
        exact impl_showSide.any_none k a0 w hd hs
      · rw [if_neg hq] at h
        replace h := Option.bind_eq_some_iff.mp h
        obtain ⟨u, eu, h⟩ := h
        by_cases hu : u.size ≤ 100000
        · rw [if_pos hu] at h
          by_cases hn : a3 = a2
          · rw [if_pos hn] at h
            obtain rfl := Option.some.inj h
            subst hn
            exact impl_showSide.any_one k a0 _ u w hd hs eu hu
          · rw [if_neg hn] at h
            replace h := Option.bind_eq_some_iff.mp h
            obtain ⟨v, ev, h⟩ := h
            by_cases hv : v.size ≤ 100000
            · rw [if_pos hv] at h
              obtain rfl := Option.some.inj h
              exact impl_showSide.any_two k a0 _ u _ v w hd hs eu hu hn hq ev hv
            · rw [if_neg hv] at h
              cases h
        · rw [if_neg hu] at h
          cases h
    · rw [if_neg hp] at e1
      obtain ⟨⟨t, c⟩, ep, e1⟩ := Option.bind_eq_some_iff.mp e1
      by_cases ht : t.size ≤ 1000000
      · have e1 := (if_pos ht).symm.trans e1
        obtain rfl := Option.some.inj e1
        by_cases hq : a2 = 0 ∧ a3 = 65535
        · rw [if_pos hq] at h
          obtain rfl := Option.some.inj h
          obtain ⟨rfl, rfl⟩ := hq
          exact impl_showSide.pre_none k a0 _ _ t c w hd hs hp ep ht
        · rw [if_neg hq] at h
          replace h := Option.bind_eq_some_iff.mp h
          obtain ⟨u, eu, h⟩ := h
          by_cases hu : u.size ≤ 100000
          · rw [if_pos hu] at h
            by_cases hn : a3 = a2
            · rw [if_pos hn] at h
              obtain rfl := Option.some.inj h
              subst hn
              exact impl_showSide.pre_one k a0 _ _ t c _ u w hd hs hp ep ht eu hu
            · rw [if_neg hn] at h
              replace h := Option.bind_eq_some_iff.mp h
              obtain ⟨v, ev, h⟩ := h
              by_cases hv : v.size ≤ 100000
              · rw [if_pos hv] at h
                obtain rfl := Option.some.inj h
                exact impl_showSide.pre_two k a0 _ _ t c _ u _ v w hd hs hp ep ht eu hu hn hq ev hv
              · rw [if_neg hv] at h
                cases h
          · rw [if_neg hu] at h
            cases h
      · have e1 := (if_neg ht).symm.trans e1
        cases e1
  · rw [if_neg hs] at h
    cases h


/-! ### impl_showRule: function 15 -/
theorem impl_showRule.keep (a0_0 a0_1 a0_2 a0_3 a0_4 a0_5 a0_6 a0_7 a0_8 a0_9 a0_10 st : Int) (act dir pro sta : ByteArray) (aA aD aS : Addr) (cA cD cS bm gb : Nat) (om : Obj) {w W W' : World} (hl : ∀ V : World, V.heap[bm]? = some om → (Instr.lookup 52 (.map (some bm)) (.int .i64 a0_2) false).run Tryd.prog V = .ok (.string pro) V) (h : Below w.heap.size w W ∧ W.cell? ⟨gb, 0, none⟩ = some (.int .i64 a0_0) ∧ W.cell? ⟨gb, 1, none⟩ = some (.int .i64 a0_1) ∧ W.cell? ⟨gb, 2, none⟩ = some (.int .i64 a0_2) ∧ W.cell? ⟨gb, 3, none⟩ = some (.int .i64 a0_3) ∧ W.cell? ⟨gb, 4, none⟩ = some (.int .i64 a0_4) ∧ W.cell? ⟨gb, 5, none⟩ = some (.int .i64 a0_5) ∧ W.cell? ⟨gb, 6, none⟩ = some (.int .i64 a0_6) ∧ W.cell? ⟨gb, 7, none⟩ = some (.int .i64 a0_7) ∧ W.cell? ⟨gb, 8, none⟩ = some (.int .i64 a0_8) ∧ W.cell? ⟨gb, 9, none⟩ = some (.int .i64 a0_9) ∧ W.cell? ⟨gb, 10, none⟩ = some (.int .i64 a0_10) ∧ W.cell? ⟨gb, 11, none⟩ = some (.int .i64 st) ∧ W.cell? ⟨0, 0, none⟩ = some (.slice (some aA) 4 cA) ∧ W.cell? ⟨1, 0, none⟩ = some (.slice (some aD) 4 cD) ∧ W.cell? ⟨2, 0, none⟩ = some (.map (some bm)) ∧ W.cell? (aA.add a0_0.toNat) = some (.string act) ∧ W.cell? (aD.add a0_1.toNat) = some (.string dir) ∧ W.cell? ⟨3, 0, none⟩ = some (.slice (some aS) 5 cS) ∧ W.cell? (aS.add st.toNat) = some (.string sta) ∧ W.heap[bm]? = some om ∧ (Instr.lookup 52 (.map (some bm)) (.int .i64 a0_2) false).run Tryd.prog W = .ok (.string pro) W) (hb : Below W.heap.size W W') : Below w.heap.size w W' ∧ W'.cell? ⟨gb, 0, none⟩ = some (.int .i64 a0_0) ∧ W'.cell? ⟨gb, 1, none⟩ = some (.int .i64 a0_1) ∧ W'.cell? ⟨gb, 2, none⟩ = some (.int .i64 a0_2) ∧ W'.cell? ⟨gb, 3, none⟩ = some (.int .i64 a0_3) ∧ W'.cell? ⟨gb, 4, none⟩ = some (.int .i64 a0_4) ∧ W'.cell? ⟨gb, 5, none⟩ = some (.int .i64 a0_5) ∧ W'.cell? ⟨gb, 6, none⟩ = some (.int .i64 a0_6) ∧ W'.cell? ⟨gb, 7, none⟩ = some (.int .i64 a0_7) ∧ W'.cell? ⟨gb, 8, none⟩ = some (.int .i64 a0_8) ∧ W'.cell? ⟨gb, 9, none⟩ = some (.int .i64 a0_9) ∧ W'.cell? ⟨gb, 10, none⟩ = some (.int .i64 a0_10) ∧ W'.cell? ⟨gb, 11, none⟩ = some (.int .i64 st) ∧ W'.cell? ⟨0, 0, none⟩ = some (.slice (some aA) 4 cA) ∧ W'.cell? ⟨1, 0, none⟩ = some (.slice (some aD) 4 cD) ∧ W'.cell? ⟨2, 0, none⟩ = some (.map (some bm)) ∧ W'.cell? (aA.add a0_0.toNat) = some (.string act) ∧ W'.cell? (aD.add a0_1.toNat) = some (.string dir) ∧ W'.cell? ⟨3, 0, none⟩ = some (.slice (some aS) 5 cS) ∧ W'.cell? (aS.add st.toNat) = some (.string sta) ∧ W'.heap[bm]? = some om ∧ (Instr.lookup 52 (.map (some bm)) (.int .i64 a0_2) false).run Tryd.prog W' = .ok (.string pro) W' := by
  obtain ⟨h0, h1, h2, h3, h4, h5, h6, h7, h8, h9, h10, h11, h12, h13, h14, h15, h16, h17, h18, h19, h20, h21⟩ := h
  exact ⟨below_step h0 hb, (hb.cell (World.block_lt_of_cell? W _ h1)).trans h1, (hb.cell (World.block_lt_of_cell? W _ h2)).trans h2, (hb.cell (World.block_lt_of_cell? W _ h3)).trans h3, (hb.cell (World.block_lt_of_cell? W _ h4)).trans h4, (hb.cell (World.block_lt_of_cell? W _ h5)).trans h5, (hb.cell (World.block_lt_of_cell? W _ h6)).trans h6, (hb.cell (World.block_lt_of_cell? W _ h7)).trans h7, (hb.cell (World.block_lt_of_cell? W _ h8)).trans h8, (hb.cell (World.block_lt_of_cell? W _ h9)).trans h9, (hb.cell (World.block_lt_of_cell? W _ h10)).trans h10, (hb.cell (World.block_lt_of_cell? W _ h11)).trans h11, (hb.cell (World.block_lt_of_cell? W _ h12)).trans h12, (hb.cell (World.block_lt_of_cell? W _ h13)).trans h13, (hb.cell (World.block_lt_of_cell? W _ h14)).trans h14, (hb.cell (World.block_lt_of_cell? W _ h15)).trans h15, (hb.cell (World.block_lt_of_cell? W _ h16)).trans h16, (hb.cell (World.block_lt_of_cell? W _ h17)).trans h17, (hb.cell (World.block_lt_of_cell? W _ h18)).trans h18, (hb.cell (World.block_lt_of_cell? W _ h19)).trans h19, blk_below h20 hb, hl _ (blk_below h20 hb)⟩
set_option maxHeartbeats 60000000 in
set_option maxRecDepth 100000 in
theorem impl_showRule.whole (k : Nat) (a0_0 a0_1 a0_2 a0_3 a0_4 a0_5 a0_6 a0_7 a0_8 a0_9 a0_10 st : Int) (act dir pro sta s1 s2 : ByteArray) (w : World) (hd : Door w) (h0 : 0 ≤ a0_0 ∧ a0_0 < 4) (h1 : 0 ≤ a0_1 ∧ a0_1 < 4) (h2 : 0 ≤ st ∧ st < 5)
    (hact : act = wAct.getD a0_0.toNat ByteArray.empty) (hdir : dir = wDir.getD a0_1.toNat ByteArray.empty) (hsta : sta = wSta.getD st.toNat ByteArray.empty) (hpro : (a0_2, pro) ∈ wPro) (za : act.size ≤ 10) (zd : dir.size ≤ 10) (zp : pro.size ≤ 10) (zs : sta.size ≤ 10)
    (e1 : impl_showSide.f k (⟨#[102, 114, 111, 109]⟩ : ByteArray) a0_3 a0_4 a0_5 a0_6 = some s1) (e2 : impl_showSide.f k (⟨#[116, 111]⟩ : ByteArray) a0_7 a0_8 a0_9 a0_10 = some s2) (y1 : s1.size ≤ 2000000) (y2 : s2.size ≤ 2000000) :
    Calls Tryd.prog 15 #[.agg #[.int .i64 a0_0, .int .i64 a0_1, .int .i64 a0_2, .int .i64 a0_3, .int .i64 a0_4, .int .i64 a0_5, .int .i64 a0_6, .int .i64 a0_7, .int .i64 a0_8, .int .i64 a0_9, .int .i64 a0_10, .int .i64 st]] w fun e w' => e = .returned (.string (if st = 0 then ((((((act ++ (⟨#[32]⟩ : ByteArray)) ++ dir) ++ (⟨#[32]⟩ : ByteArray)) ++ pro) ++ s1) ++ s2) else (((((((act ++ (⟨#[32]⟩ : ByteArray)) ++ dir) ++ (⟨#[32]⟩ : ByteArray)) ++ pro) ++ s1) ++ s2) ++ ((⟨#[32]⟩ : ByteArray) ++ sta)))) ∧ Below w.heap.size w w' := by
  have hu33 := Tryd.underlying33
  have hu31 := Tryd.underlying31
  have HD := Aside0.mk hd
  have E1 := Aside0.mk e1
  have E2 := Aside0.mk e2
  have z0 : (9223372036854775807 < act.size + 1) = False := eq_false (by omega)
  have z1 : (9223372036854775807 < act.size + 1 + dir.size) = False := eq_false (by omega)
  have z2 : (9223372036854775807 < act.size + 1 + dir.size + 1) = False := eq_false (by omega)
  have z3 : (9223372036854775807 < act.size + 1 + dir.size + 1 + pro.size) = False := eq_false (by omega)
  have z4 : (9223372036854775807 < act.size + 1 + dir.size + 1 + pro.size + s1.size) = False := eq_false (by omega)
  have z5 : (9223372036854775807 < act.size + 1 + dir.size + 1 + pro.size + s1.size + s2.size) = False := eq_false (by omega)
  have z6 : (9223372036854775807 < 1 + sta.size) = False := eq_false (by omega)
  have z7 : (9223372036854775807 < act.size + 1 + dir.size + 1 + pro.size + s1.size + s2.size + (1 + sta.size)) = False := eq_false (by omega)
  have i4 : (0 ≤ st) = True := eq_true h2.1
  have i5 : (st < 5) = True := eq_true h2.2
  have i0 : (0 ≤ a0_0) = True := eq_true h0.1
  have i1 : (a0_0 < 4) = True := eq_true h0.2
  have i2 : (0 ≤ a0_1) = True := eq_true h1.1
  have i3 : (a0_1 < 4) = True := eq_true h1.2
  obtain ⟨aA, cA, ga, gac, gaj⟩ := hd.2.2.1
  obtain ⟨aD, cD, gd, gdc, gdj⟩ := hd.2.2.2.1
  obtain ⟨aS, cS, gs, gsc, gsj⟩ := hd.2.2.2.2.1
  obtain ⟨bm, om, gm, gmo, gml⟩ := hd.2.2.2.2.2.1
  have ga0 : w.cell? (aA.add a0_0.toNat) = some (.string act) := by rw [hact]; exact gaj _ (by show a0_0.toNat < 4; omega)
  have gd0 : w.cell? (aD.add a0_1.toNat) = some (.string dir) := by rw [hdir]; exact gdj _ (by show a0_1.toNat < 4; omega)
  have gs0 : w.cell? (aS.add st.toNat) = some (.string sta) := by rw [hsta]; exact gsj _ (by show st.toNat < 5; omega)
  replace gs : w.cell? ⟨3, 0, none⟩ = some (.slice (some aS) 5 cS) := gs
  replace gsc : 5 ≤ cS := gsc
  replace ga : w.cell? ⟨0, 0, none⟩ = some (.slice (some aA) 4 cA) := ga
  replace gd : w.cell? ⟨1, 0, none⟩ = some (.slice (some aD) 4 cD) := gd
  replace gac : 4 ≤ cA := gac
  replace gdc : 4 ≤ cD := gdc
  have HB := Aside0.mk (Below.refl w.heap.size w)
  have gml0 := fun w' h => gml w' h _ hpro
  clear hd e1 e2 gaj gdj gsj gml hact hdir hsta
  have G1 := Aside0.mk ga
  have G2 := Aside0.mk gd
  have G3 := Aside0.mk gm
  have G4 := Aside0.mk ga0
  have G5 := Aside0.mk gd0
  have G8 := Aside0.mk gs
  have G9 := Aside0.mk gs0
  have G6 := Aside0.mk gmo
  have G7 := Aside0.mk gml0
  clear gs gs0 ga gd gm ga0 gd0 gmo gml0
  go_enter Tryd.func15, Tryd.ntmps15
  go_upto_region 1 with (first
    | ((with_reducible refine gate_dst (N := 1) rfl ?_); refine box_event ?hg (N := 1) ?hd (cs := #[.int .i64 a0_0, .int .i64 a0_1, .int .i64 a0_2, .int .i64 a0_3, .int .i64 a0_4, .int .i64 a0_5, .int .i64 a0_6, .int .i64 a0_7, .int .i64 a0_8, .int .i64 a0_9, .int .i64 a0_10, .int .i64 st]) (t := 33) ?hr ?_; (case hd => rfl); (case hg => rfl); (case hr => first | (go_simp; done) | (go_simp; rfl)); intro gb hg w1 hbox hb; have B1 := Aside0.mk (below_step HB.out hb); have BK := Aside0.mk hbox; clear hb hbox hg))
  have hk12 : w1.heap[gb]? = some (.cells #[.int .i64 a0_0, .int .i64 a0_1, .int .i64 a0_2, .int .i64 a0_3, .int .i64 a0_4, .int .i64 a0_5, .int .i64 a0_6, .int .i64 a0_7, .int .i64 a0_8, .int .i64 a0_9, .int .i64 a0_10, .int .i64 st] 33 (0, 0)) := BK.out
  have S1 : Below w.heap.size w w1 ∧ w1.cell? ⟨gb, 0, none⟩ = some (.int .i64 a0_0) ∧ w1.cell? ⟨gb, 1, none⟩ = some (.int .i64 a0_1) ∧ w1.cell? ⟨gb, 2, none⟩ = some (.int .i64 a0_2) ∧ w1.cell? ⟨gb, 3, none⟩ = some (.int .i64 a0_3) ∧ w1.cell? ⟨gb, 4, none⟩ = some (.int .i64 a0_4) ∧ w1.cell? ⟨gb, 5, none⟩ = some (.int .i64 a0_5) ∧ w1.cell? ⟨gb, 6, none⟩ = some (.int .i64 a0_6) ∧ w1.cell? ⟨gb, 7, none⟩ = some (.int .i64 a0_7) ∧ w1.cell? ⟨gb, 8, none⟩ = some (.int .i64 a0_8) ∧ w1.cell? ⟨gb, 9, none⟩ = some (.int .i64 a0_9) ∧ w1.cell? ⟨gb, 10, none⟩ = some (.int .i64 a0_10) ∧ w1.cell? ⟨gb, 11, none⟩ = some (.int .i64 st) ∧ w1.cell? ⟨0, 0, none⟩ = some (.slice (some aA) 4 cA) ∧ w1.cell? ⟨1, 0, none⟩ = some (.slice (some aD) 4 cD) ∧ w1.cell? ⟨2, 0, none⟩ = some (.map (some bm)) ∧ w1.cell? (aA.add a0_0.toNat) = some (.string act) ∧ w1.cell? (aD.add a0_1.toNat) = some (.string dir) ∧ w1.cell? ⟨3, 0, none⟩ = some (.slice (some aS) 5 cS) ∧ w1.cell? (aS.add st.toNat) = some (.string sta) ∧ w1.heap[bm]? = some om ∧ (Instr.lookup 52 (.map (some bm)) (.int .i64 a0_2) false).run Tryd.prog w1 = .ok (.string pro) w1 := ⟨B1.out, (blk_cell hk12 0).trans rfl, (blk_cell hk12 1).trans rfl, (blk_cell hk12 2).trans rfl, (blk_cell hk12 3).trans rfl, (blk_cell hk12 4).trans rfl, (blk_cell hk12 5).trans rfl, (blk_cell hk12 6).trans rfl, (blk_cell hk12 7).trans rfl, (blk_cell hk12 8).trans rfl, (blk_cell hk12 9).trans rfl, (blk_cell hk12 10).trans rfl, (blk_cell hk12 11).trans rfl, (B1.out.cell (World.block_lt_of_cell? w _ G1.out)).trans G1.out, (B1.out.cell (World.block_lt_of_cell? w _ G2.out)).trans G2.out, (B1.out.cell (World.block_lt_of_cell? w _ G3.out)).trans G3.out, (B1.out.cell (World.block_lt_of_cell? w _ G4.out)).trans G4.out, (B1.out.cell (World.block_lt_of_cell? w _ G5.out)).trans G5.out, (B1.out.cell (World.block_lt_of_cell? w _ G8.out)).trans G8.out, (B1.out.cell (World.block_lt_of_cell? w _ G9.out)).trans G9.out, blk_below G6.out B1.out, G7.out _ (blk_below G6.out B1.out)⟩
  have SK : ∀ W W' : World, (Below w.heap.size w W ∧ W.cell? ⟨gb, 0, none⟩ = some (.int .i64 a0_0) ∧ W.cell? ⟨gb, 1, none⟩ = some (.int .i64 a0_1) ∧ W.cell? ⟨gb, 2, none⟩ = some (.int .i64 a0_2) ∧ W.cell? ⟨gb, 3, none⟩ = some (.int .i64 a0_3) ∧ W.cell? ⟨gb, 4, none⟩ = some (.int .i64 a0_4) ∧ W.cell? ⟨gb, 5, none⟩ = some (.int .i64 a0_5) ∧ W.cell? ⟨gb, 6, none⟩ = some (.int .i64 a0_6) ∧ W.cell? ⟨gb, 7, none⟩ = some (.int .i64 a0_7) ∧ W.cell? ⟨gb, 8, none⟩ = some (.int .i64 a0_8) ∧ W.cell? ⟨gb, 9, none⟩ = some (.int .i64 a0_9) ∧ W.cell? ⟨gb, 10, none⟩ = some (.int .i64 a0_10) ∧ W.cell? ⟨gb, 11, none⟩ = some (.int .i64 st) ∧ W.cell? ⟨0, 0, none⟩ = some (.slice (some aA) 4 cA) ∧ W.cell? ⟨1, 0, none⟩ = some (.slice (some aD) 4 cD) ∧ W.cell? ⟨2, 0, none⟩ = some (.map (some bm)) ∧ W.cell? (aA.add a0_0.toNat) = some (.string act) ∧ W.cell? (aD.add a0_1.toNat) = some (.string dir) ∧ W.cell? ⟨3, 0, none⟩ = some (.slice (some aS) 5 cS) ∧ W.cell? (aS.add st.toNat) = some (.string sta) ∧ W.heap[bm]? = some om ∧ (Instr.lookup 52 (.map (some bm)) (.int .i64 a0_2) false).run Tryd.prog W = .ok (.string pro) W) → Below W.heap.size W W' → (Below w.heap.size w W' ∧ W'.cell? ⟨gb, 0, none⟩ = some (.int .i64 a0_0) ∧ W'.cell? ⟨gb, 1, none⟩ = some (.int .i64 a0_1) ∧ W'.cell? ⟨gb, 2, none⟩ = some (.int .i64 a0_2) ∧ W'.cell? ⟨gb, 3, none⟩ = some (.int .i64 a0_3) ∧ W'.cell? ⟨gb, 4, none⟩ = some (.int .i64 a0_4) ∧ W'.cell? ⟨gb, 5, none⟩ = some (.int .i64 a0_5) ∧ W'.cell? ⟨gb, 6, none⟩ = some (.int .i64 a0_6) ∧ W'.cell? ⟨gb, 7, none⟩ = some (.int .i64 a0_7) ∧ W'.cell? ⟨gb, 8, none⟩ = some (.int .i64 a0_8) ∧ W'.cell? ⟨gb, 9, none⟩ = some (.int .i64 a0_9) ∧ W'.cell? ⟨gb, 10, none⟩ = some (.int .i64 a0_10) ∧ W'.cell? ⟨gb, 11, none⟩ = some (.int .i64 st) ∧ W'.cell? ⟨0, 0, none⟩ = some (.slice (some aA) 4 cA) ∧ W'.cell? ⟨1, 0, none⟩ = some (.slice (some aD) 4 cD) ∧ W'.cell? ⟨2, 0, none⟩ = some (.map (some bm)) ∧ W'.cell? (aA.add a0_0.toNat) = some (.string act) ∧ W'.cell? (aD.add a0_1.toNat) = some (.string dir) ∧ W'.cell? ⟨3, 0, none⟩ = some (.slice (some aS) 5 cS) ∧ W'.cell? (aS.add st.toNat) = some (.string sta) ∧ W'.heap[bm]? = some om ∧ (Instr.lookup 52 (.map (some bm)) (.int .i64 a0_2) false).run Tryd.prog W' = .ok (.string pro) W') := fun W W' h hb => impl_showRule.keep a0_0 a0_1 a0_2 a0_3 a0_4 a0_5 a0_6 a0_7 a0_8 a0_9 a0_10 st act dir pro sta aA aD aS cA cD cS bm gb om G7.out h hb
  have SB : ∀ W : World, (Below w.heap.size w W ∧ W.cell? ⟨gb, 0, none⟩ = some (.int .i64 a0_0) ∧ W.cell? ⟨gb, 1, none⟩ = some (.int .i64 a0_1) ∧ W.cell? ⟨gb, 2, none⟩ = some (.int .i64 a0_2) ∧ W.cell? ⟨gb, 3, none⟩ = some (.int .i64 a0_3) ∧ W.cell? ⟨gb, 4, none⟩ = some (.int .i64 a0_4) ∧ W.cell? ⟨gb, 5, none⟩ = some (.int .i64 a0_5) ∧ W.cell? ⟨gb, 6, none⟩ = some (.int .i64 a0_6) ∧ W.cell? ⟨gb, 7, none⟩ = some (.int .i64 a0_7) ∧ W.cell? ⟨gb, 8, none⟩ = some (.int .i64 a0_8) ∧ W.cell? ⟨gb, 9, none⟩ = some (.int .i64 a0_9) ∧ W.cell? ⟨gb, 10, none⟩ = some (.int .i64 a0_10) ∧ W.cell? ⟨gb, 11, none⟩ = some (.int .i64 st) ∧ W.cell? ⟨0, 0, none⟩ = some (.slice (some aA) 4 cA) ∧ W.cell? ⟨1, 0, none⟩ = some (.slice (some aD) 4 cD) ∧ W.cell? ⟨2, 0, none⟩ = some (.map (some bm)) ∧ W.cell? (aA.add a0_0.toNat) = some (.string act) ∧ W.cell? (aD.add a0_1.toNat) = some (.string dir) ∧ W.cell? ⟨3, 0, none⟩ = some (.slice (some aS) 5 cS) ∧ W.cell? (aS.add st.toNat) = some (.string sta) ∧ W.heap[bm]? = some om ∧ (Instr.lookup 52 (.map (some bm)) (.int .i64 a0_2) false).run Tryd.prog W = .ok (.string pro) W) → Below w.heap.size w W := fun W h => h.1
  clear hk12
  go_region_held3 (fun W : World => Below w.heap.size w W ∧ W.cell? ⟨gb, 0, none⟩ = some (.int .i64 a0_0) ∧ W.cell? ⟨gb, 1, none⟩ = some (.int .i64 a0_1) ∧ W.cell? ⟨gb, 2, none⟩ = some (.int .i64 a0_2) ∧ W.cell? ⟨gb, 3, none⟩ = some (.int .i64 a0_3) ∧ W.cell? ⟨gb, 4, none⟩ = some (.int .i64 a0_4) ∧ W.cell? ⟨gb, 5, none⟩ = some (.int .i64 a0_5) ∧ W.cell? ⟨gb, 6, none⟩ = some (.int .i64 a0_6) ∧ W.cell? ⟨gb, 7, none⟩ = some (.int .i64 a0_7) ∧ W.cell? ⟨gb, 8, none⟩ = some (.int .i64 a0_8) ∧ W.cell? ⟨gb, 9, none⟩ = some (.int .i64 a0_9) ∧ W.cell? ⟨gb, 10, none⟩ = some (.int .i64 a0_10) ∧ W.cell? ⟨gb, 11, none⟩ = some (.int .i64 st) ∧ W.cell? ⟨0, 0, none⟩ = some (.slice (some aA) 4 cA) ∧ W.cell? ⟨1, 0, none⟩ = some (.slice (some aD) 4 cD) ∧ W.cell? ⟨2, 0, none⟩ = some (.map (some bm)) ∧ W.cell? (aA.add a0_0.toNat) = some (.string act) ∧ W.cell? (aD.add a0_1.toNat) = some (.string dir) ∧ W.cell? ⟨3, 0, none⟩ = some (.slice (some aS) 5 cS) ∧ W.cell? (aS.add st.toNat) = some (.string sta) ∧ W.heap[bm]? = some om ∧ (Instr.lookup 52 (.map (some bm)) (.int .i64 a0_2) false).run Tryd.prog W = .ok (.string pro) W) (first | exact SK _ _ S1 (Below.drew (Below.refl _ _)) | exact SK _ _ (by assumption) (by assumption) | assumption) (first | (go_at_call 27; (with_reducible refine (impl_showSide.calls k (⟨#[102, 114, 111, 109]⟩ : ByteArray) a0_3 a0_4 a0_5 a0_6 s1 _ ?side1 E1.out).mono ?_); (case side1 => exact Door.c_below HD.out (SB _ (by assumption))); rintro e v1 ⟨rfl, hb⟩) | (go_at_call 27; (with_reducible refine (impl_showSide.calls k (⟨#[116, 111]⟩ : ByteArray) a0_7 a0_8 a0_9 a0_10 s2 _ ?side1 E2.out).mono ?_); (case side1 => exact Door.c_below HD.out (SB _ (by assumption))); rintro e v2 ⟨rfl, hb⟩))
  all_goals (
    rename_i hS
    obtain ⟨q0, q1, q2, q3, q4, q5, q6, q7, q8, q9, q10, q11, q12, q13, q14, q15, q16, q17, q18, q19, q20, q21⟩ := hS
    by_cases c0 : st = 0
    · subst c0
      go_wp2
      go_ret
      exact ⟨by first | rfl | (simp; done) | (simp [*]; done), q0⟩
    · have m0 : (st == 0) = false := by simpa using c0
      have m1 : (st != 0) = true := by simpa using c0
      have m2 : decide (st = 0) = false := decide_eq_false c0
      go_wp2
      go_ret
      exact ⟨by first | (rw [if_neg c0]; done) | (rw [if_neg c0]; rfl) | (simp [c0]; done) | (simp [*]; done), q0⟩)

def proW (p : Int) : Option ByteArray := if p = 0 then some (⟨#[97, 110, 121]⟩ : ByteArray) else if p = 1 then some (⟨#[105, 99, 109, 112]⟩ : ByteArray) else if p = 6 then some (⟨#[116, 99, 112]⟩ : ByteArray) else if p = 17 then some (⟨#[117, 100, 112]⟩ : ByteArray) else none
theorem proW_in {p : Int} {s : ByteArray} (h : proW p = some s) : (p, s) ∈ wPro ∧ s.size ≤ 10 := by
  unfold proW at h
  unfold wPro
  repeat' split at h
  all_goals first | (cases h; done) | (obtain rfl := Option.some.inj h; subst_vars; exact ⟨by simp, by decide⟩)
theorem getD_small (l : List ByteArray) (n : Nat) (h : l.all (fun x => decide (x.size ≤ 10)) = true) : (l.getD n ByteArray.empty).size ≤ 10 := by
  rw [List.getD_eq_getElem?_getD]
  by_cases hn : n < l.length
  · rw [List.getElem?_eq_getElem hn]
    have := List.all_eq_true.1 h l[n] (List.getElem_mem hn)
    simpa using this
  · rw [List.getElem?_eq_none (by omega)]
    decide
def ruleT (act dir pro sta s1 s2 : ByteArray) (st : Int) : ByteArray := if st = 0 then ((((((act ++ (⟨#[32]⟩ : ByteArray)) ++ dir) ++ (⟨#[32]⟩ : ByteArray)) ++ pro) ++ s1) ++ s2) else (((((((act ++ (⟨#[32]⟩ : ByteArray)) ++ dir) ++ (⟨#[32]⟩ : ByteArray)) ++ pro) ++ s1) ++ s2) ++ ((⟨#[32]⟩ : ByteArray) ++ sta))
def impl_showRule.f (k : Nat) (a0_0 a0_1 a0_2 a0_3 a0_4 a0_5 a0_6 a0_7 a0_8 a0_9 a0_10 a0_11 : Int) : Option ByteArray :=
  if (0 ≤ a0_0 ∧ a0_0 < 4) ∧ (0 ≤ a0_1 ∧ a0_1 < 4) ∧ (0 ≤ a0_11 ∧ a0_11 < 5) then
    (proW a0_2).bind fun pro => (impl_showSide.f k (⟨#[102, 114, 111, 109]⟩ : ByteArray) a0_3 a0_4 a0_5 a0_6).bind fun s1 => if s1.size ≤ 2000000 then
      (impl_showSide.f k (⟨#[116, 111]⟩ : ByteArray) a0_7 a0_8 a0_9 a0_10).bind fun s2 => if s2.size ≤ 2000000 then
        some (ruleT (wAct.getD a0_0.toNat ByteArray.empty) (wDir.getD a0_1.toNat ByteArray.empty) pro (wSta.getD a0_11.toNat ByteArray.empty) s1 s2 a0_11)
      else none
    else none
  else none
theorem impl_showRule.mono : ∀ a0 a1 a2 a3 a4 a5 a6 a7 a8 a9 a10 a11 k, LeO (impl_showRule.f k a0 a1 a2 a3 a4 a5 a6 a7 a8 a9 a10 a11) (impl_showRule.f (k + 1) a0 a1 a2 a3 a4 a5 a6 a7 a8 a9 a10 a11) := by
  intro a0 a1 a2 a3 a4 a5 a6 a7 a8 a9 a10 a11 k
  unfold impl_showRule.f
  repeat' first
      | (with_reducible exact impl_showSide.mono _ _ _ _ _ _)
      | (with_reducible exact LeO.refl _)
      | (with_reducible exact LeO.none _)
      | (with_reducible refine LeO.ite ?_ ?_)
      | (with_reducible refine LeO.bind ?_ (fun _ => ?_))
      | exact impl_showSide.mono _ _ _ _ _ _
      | exact LeO.none _
      | refine LeO.ite ?_ ?_
      | refine LeO.bind ?_ (fun _ => ?_)
theorem impl_showRule.calls (k : Nat) (a0_0 a0_1 a0_2 a0_3 a0_4 a0_5 a0_6 a0_7 a0_8 a0_9 a0_10 a0_11 : Int) (r : ByteArray) (w : World) (hd : Door w) (h : impl_showRule.f k a0_0 a0_1 a0_2 a0_3 a0_4 a0_5 a0_6 a0_7 a0_8 a0_9 a0_10 a0_11 = some r) :
    Calls Tryd.prog 15 #[.agg #[.int .i64 a0_0, .int .i64 a0_1, .int .i64 a0_2, .int .i64 a0_3, .int .i64 a0_4, .int .i64 a0_5, .int .i64 a0_6, .int .i64 a0_7, .int .i64 a0_8, .int .i64 a0_9, .int .i64 a0_10, .int .i64 a0_11]] w fun e w' => e = .returned (.string r) ∧ Below w.heap.size w w' := by
  unfold impl_showRule.f at h
  by_cases hb : (0 ≤ a0_0 ∧ a0_0 < 4) ∧ (0 ≤ a0_1 ∧ a0_1 < 4) ∧ (0 ≤ a0_11 ∧ a0_11 < 5)
  · rw [if_pos hb] at h
    replace h := Option.bind_eq_some_iff.mp h
    obtain ⟨pro, ep, h⟩ := h
    replace h := Option.bind_eq_some_iff.mp h
    obtain ⟨s1, e1, h⟩ := h
    by_cases y1 : s1.size ≤ 2000000
    · replace h := (if_pos y1).symm.trans h
      replace h := Option.bind_eq_some_iff.mp h
      obtain ⟨s2, e2, h⟩ := h
      by_cases y2 : s2.size ≤ 2000000
      · replace h := (if_pos y2).symm.trans h
        obtain rfl := Option.some.inj h
        obtain ⟨hp, zp⟩ := proW_in ep
        exact impl_showRule.whole k a0_0 a0_1 a0_2 a0_3 a0_4 a0_5 a0_6 a0_7 a0_8 a0_9 a0_10 a0_11 _ _ pro _ s1 s2 w hd hb.1 hb.2.1 hb.2.2 rfl rfl rfl hp (getD_small _ _ (by decide)) (getD_small _ _ (by decide)) zp (getD_small _ _ (by decide)) e1 e2 y1 y2
      · replace h := (if_neg y2).symm.trans h
        cases h
    · replace h := (if_neg y1).symm.trans h
      cases h
  · rw [if_neg hb] at h
    cases h


end Go.Proofs.YtmgapmpmmkmdhaaDoor.PFnExactShowRules
