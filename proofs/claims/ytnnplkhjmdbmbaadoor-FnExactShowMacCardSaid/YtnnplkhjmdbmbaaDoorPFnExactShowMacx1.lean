-- Written for this claim by a program of this session (wip/mkprint.py: the print, turned at a few places). Not trusted: Lean checks it.
import Derived.Test.YtnnplkhjmdbmbaaDoorPFnExactShowMacx0
namespace Go.Proofs.YtnnplkhjmdbmbaaDoor.PFnExactShowMac
open Go.RowKit Go.Proofs.YtnnplkhjmdbmbaaDoorW.PrintWords Go.Proofs.YtnnplkhjmdbmbaaDoorW.PrintLast Go.Proofs.YtnnplkhjmdbmbaaDoorW.PrintMore
attribute [local go_sem] max2_int min2_int max_two min_two max_three min_three max_four min_four   -- for this text's walks alone
set_option linter.unusedVariables false
set_option linter.unusedSimpArgs false

/-! ### strconv_FormatInt: function 34 -/
def strconv_FormatInt.f (a0 a1 : Int) : Option ByteArray := if a1 = 10 ∧ -9223372036854775808 ≤ a0 ∧ a0 ≤ 9223372036854775807 then some ⟨(Lib.itoa a0).toArray⟩ else if a1 = 16 ∧ 0 ≤ a0 ∧ a0 < 256 then some ⟨(Go.Proofs.YtnnplkhjmdbmbaaDoor.Hex.hexL a0.toNat).toArray⟩ else none
theorem strconv_FormatInt.calls (a0 a1 : Int) (r : ByteArray) (w : World) (hd : Door w) (h : strconv_FormatInt.f a0 a1 = some r) :
    Calls Tryd.prog 34 #[.int .i64 a0, .int .i64 a1] w fun e w' => e = .returned (.string r) ∧ Below w.heap.size w w' := by
  unfold strconv_FormatInt.f at h
  split at h
  · rename_i hc
    obtain ⟨rfl, h0, h1⟩ := hc
    obtain rfl := Option.some.inj h
    refine (Tryd.strconv_FormatInt_10 a0 h0 h1 w hd.2.1).mono ?_
    rintro e w' ⟨rfl, k, os, rfl⟩
    exact ⟨rfl, below_grow_drewN w k os⟩
  · split at h
    · rename_i hc
      obtain ⟨rfl, h0, h1⟩ := hc
      obtain rfl := Option.some.inj h
      obtain ⟨n, rfl⟩ := Int.eq_ofNat_of_zero_le h0
      exact Go.Proofs.YtnnplkhjmdbmbaaDoor.Hex.format16 n (by omega) w (fun o => (hd.c_alloc o).2.2.cell (by kernel_rfl) 15 (by decide))
    · cases h


/-! ### strings_Join: function 35 -/
def strings_Join.f (l0 : List ByteArray) (a1 : ByteArray) : Option ByteArray := if l0.length ≤ 140737488355328 ∧ (Lib.join (l0.map (·.data.toList)) a1.data.toList).length ≤ 140737488355328 then some ⟨(Lib.join (l0.map (·.data.toList)) a1.data.toList).toArray⟩ else none
theorem strings_Join.calls (A0 : Option Addr) (c0 : Nat) (l0 : List ByteArray) (a1 : ByteArray) (r : ByteArray) (w : World) (hr0 : Kd.C Kd.string w A0 l0.length l0) (hc0 : l0.length ≤ c0) (h : strings_Join.f l0 a1 = some r) :
    Calls Tryd.prog 35 #[.slice A0 l0.length c0, .string a1] w fun e w' => e = .returned (.string r) ∧ Below w.heap.size w w' := by
  unfold strings_Join.f at h
  split at h
  · rename_i hc
    obtain rfl := Option.some.inj h
    rcases Nat.eq_zero_or_pos l0.length with h0 | h0
    · obtain rfl := List.length_eq_zero_iff.1 h0
      refine (Tryd.strings_Join_none A0 c0 a1 w).mono ?_
      rintro e w' ⟨rfl, rfl⟩
      exact ⟨rfl, Below.refl _ _⟩
    · obtain ⟨ad, rfl, hcell⟩ := hr0.2.2 h0
      have hget : ∀ (j : Nat) x, l0[j]? = some x → w.cell? (ad.add j) = some (.string x) := by
        intro j x hj
        obtain ⟨c, _, rfl, h2⟩ := hcell j x hj
        have := h2 0 _ rfl
        simpa [Kd.string, Kd.scalar] using this
      obtain ⟨bk, o, sp⟩ := ad
      have hz := hget 0 _ (List.getElem?_eq_getElem h0)
      have hsp : sp = none := by
        cases sp with
        | none => rfl
        | some s =>
          simp only [Addr.add, if_true, World.cell?] at hz
          split at hz <;> simp at hz
      subst hsp
      have hbk : bk < w.heap.size := World.block_lt_of_cell? w _ hz
      refine Tryd.strings_Join bk o c0 l0 a1 w (fun j x hj => ?_) hbk hc.1 hc0 hc.2
      have := hget j x hj
      unfold Addr.add at this
      split at this
      · rename_i hj0
        subst hj0
        exact this
      · exact this
  · cases h


/-! ### impl_isMac: function 38 -/
def impl_isMac.f (a0 : Int) : Option (Bool) := if a0 ≥ 0 then (some (decide (a0 ≤ 281474976710655))) else (some false)
set_option maxHeartbeats 60000000 in
set_option maxRecDepth 100000 in
theorem impl_isMac.calls (a0 : Int) (r : Bool) (w : World) (h : impl_isMac.f a0 = some r) :
    Calls Tryd.prog 38 #[.int .i64 a0] w fun e w' => e = .returned (.bool r) ∧ Drawn0 w w' := by
  have H : (if a0 ≥ 0 then (some (decide (a0 ≤ 281474976710655))) else (some false)) = some r := h
  clear h
  by_cases c2 : a0 ≥ 0
  · rw [if_pos c2] at H
    have c2b0 : decide (0 ≤ a0) = true := decide_eq_true c2
    clear c2
    obtain rfl := Option.some.inj H
    go_enter Tryd.func38, Tryd.ntmps38
    go_wp2
    go_ret
    exact ⟨by first | rfl | (simp; done) | (simp [*]; done), by repeat (first | exact Drawn0.refl _ | apply Drawn0.step)⟩
  · rw [if_neg c2] at H
    have c2b0 : decide (0 ≤ a0) = false := decide_eq_false c2
    clear c2
    obtain rfl := Option.some.inj H
    go_enter Tryd.func38, Tryd.ntmps38
    go_wp2
    go_ret
    exact ⟨by first | rfl | (simp; done) | (simp [*]; done), by repeat (first | exact Drawn0.refl _ | apply Drawn0.step)⟩

/-! ### impl_ShowMac: function 15 -/
def impl_ShowMac.l0 : Nat → Int → List ByteArray → Int → Option (ByteArray × Int)
  | 0, _, _, _ => none
  | k + 1, x0, x4, x5 => if x5 ≥ 0 then (if 0 ≤ x5 then ((strconv_FormatInt.f (Go.bits .and .i64 (shr .i64 x0 x5) 255) 16).bind fun t102 => (if (t102.size : Int) < 2 then (if 1 + t102.size ≤ 9223372036854775807 then (if x4.length < 8796093022208 then (impl_ShowMac.l0 k x0 (x4 ++ [(⟨#[48]⟩ : ByteArray) ++ t102]) (wrap64 (x5 - 8))) else (none)) else (none)) else (if x4.length < 8796093022208 then (impl_ShowMac.l0 k x0 (x4 ++ [t102]) (wrap64 (x5 - 8))) else (none)))) else (none)) else ((strings_Join.f x4 (⟨#[58]⟩ : ByteArray)).bind fun t109 => (some (t109, 0)))
def impl_ShowMac.f (k : Nat) (a0 : Int) : Option (ByteArray × Int) := (impl_isMac.f a0).bind fun t101 => (if t101 = true then (impl_ShowMac.l0 k a0 ([] : List ByteArray) 40) else (some ((⟨#[]⟩ : ByteArray), 1)))
theorem impl_ShowMac.mono_l : ∀ k, (∀ y0 y1 y2, LeO (impl_ShowMac.l0 k y0 y1 y2) (impl_ShowMac.l0 (k + 1) y0 y1 y2))
  | 0 => fun _ _ _ r h => by simp [impl_ShowMac.l0] at h
  | k + 1 => by
    have ih0 := impl_ShowMac.mono_l k
    · intro y0 y1 y2
      unfold impl_ShowMac.l0
      repeat' first
      | (with_reducible exact ih0 _ _ _)
      | (with_reducible exact LeO.refl _)
      | (with_reducible exact LeO.none _)
      | (with_reducible refine LeO.ite ?_ ?_)
      | (with_reducible refine LeO.bind ?_ (fun _ => ?_))
      | exact ih0 _ _ _
      | exact LeO.none _
      | refine LeO.ite ?_ ?_
      | refine LeO.bind ?_ (fun _ => ?_)
theorem impl_ShowMac.mono : ∀ a0 k, LeO (impl_ShowMac.f k a0) (impl_ShowMac.f (k + 1) a0) := by
  intro a0 k
  have ih0 := impl_ShowMac.mono_l k
  unfold impl_ShowMac.f
  repeat' first
      | (with_reducible exact ih0 _ _ _)
      | (with_reducible exact LeO.refl _)
      | (with_reducible exact LeO.none _)
      | (with_reducible refine LeO.ite ?_ ?_)
      | (with_reducible refine LeO.bind ?_ (fun _ => ?_))
      | exact ih0 _ _ _
      | exact LeO.none _
      | refine LeO.ite ?_ ?_
      | refine LeO.bind ?_ (fun _ => ?_)
set_option maxHeartbeats 60000000 in
set_option maxRecDepth 100000 in
theorem impl_ShowMac.calls (k : Nat) (a0 : Int) (r1 : ByteArray) (r2 : Int) (w : World) (hd : Door w) (h : impl_ShowMac.f k a0 = some (r1, r2)) :
    Calls Tryd.prog 15 #[.int .i64 a0] w fun e w' => e = .returned (.tuple #[.string r1, .int .i64 r2]) ∧ Below w.heap.size w w' := by
  have HD := Aside0.mk hd
  clear hd
  have HB := Aside0.mk (Below.refl w.heap.size w)
  have H : ((impl_isMac.f a0).bind fun t101 => (if t101 = true then (impl_ShowMac.l0 k a0 ([] : List ByteArray) 40) else (some ((⟨#[]⟩ : ByteArray), 1)))) = some (r1, r2) := h
  clear h
  replace H := Option.bind_eq_some_iff.mp H
  obtain ⟨t101, A20, H⟩ := H
  replace H : (if t101 = true then (impl_ShowMac.l0 k a0 ([] : List ByteArray) 40) else (some ((⟨#[]⟩ : ByteArray), 1))) = some (r1, r2) := H
  have A2 := Aside0.mk A20
  clear A20
  by_cases c3 : t101 = true
  · subst c3
    have H1 : (impl_ShowMac.l0 k a0 ([] : List ByteArray) 40) = some (r1, r2) := by rw [if_pos rfl] at H; exact H
    clear H
    have H := H1
    clear H1
    have H' := Aside0.mk H
    clear H
    go_enter Tryd.func15, Tryd.ntmps15
    go_wp2_with (first | ((with_reducible refine gate_callee (f := 38) rfl ?_); refine goesL_ (some 8) rfl rfl Tryd.func38 (by kernel_rfl) rfl #[.int .i64 a0] rfl wT ?_; (with_reducible refine (impl_isMac.calls a0 true _ A2.out).mono ?_); rintro e w' ⟨rfl, ⟨nd, rfl⟩⟩; refine ⟨_, rfl, ?_⟩))
    go_loopg [4, 5] k (fun kq v4 v5 w' => ∃ (x4_1 : List ByteArray) (x5_1 : Int), v5 = .int .i64 x5_1 ∧ Aside0 (impl_ShowMac.l0 kq a0 x4_1 x5_1 = some (r1, r2)) ∧ Aside0 (kq ≤ k) ∧ Aside0 (Kd.R Kd.string 9 w' w.heap.size (fun _ => True) v4 x4_1) ∧ Aside0 (Below w.heap.size w w'))
    case atStart => exact ⟨(([] : List ByteArray)), (40), (by first | rfl | (simp; done) | (simp [*]; done)), H', ⟨Nat.le_refl _⟩, ⟨by first | exact Kd.R_nil _ _ _ _ _ | exact Kd.N_nil _ _ _ _ _ | exact Kd.V_nil _ _ _ _ _ | exact Kd.Q_nil _ _ _ _ _ | exact Kd.S_nil _ _ _ _ _⟩, ⟨wB⟩⟩
    case round =>
      clear H'
      try clear c3
      obtain ⟨x4_1, x5_1, rfl, HA, HK1, HO_4, HB⟩ := hrel
      cases gk with
      | zero => exact absurd HA.out (by simp [impl_ShowMac.l0])
      | succ k1 =>
        have H := HA.out
        clear HA
        simp only [impl_ShowMac.l0] at H
        by_cases c1001 : x5_1 ≥ 0
        · rw [if_pos c1001] at H
          have c1001b0 : decide (0 ≤ x5_1) = true := decide_eq_true c1001
          clear c1001
          by_cases c1002 : 0 ≤ x5_1
          · rw [if_pos c1002] at H
            have c1002b0 := eq_true c1002
            have c1002b1 : decide (0 ≤ x5_1) = true := decide_eq_true c1002
            clear c1002
            obtain ⟨ji1003, hji1003⟩ : ∃ j_ : Int, (shr .i64 a0 x5_1) = j_ := ⟨_, rfl⟩
            replace H : ((strconv_FormatInt.f (Go.bits .and .i64 (ji1003) 255) 16).bind fun t102 => (if (t102.size : Int) < 2 then (if 1 + t102.size ≤ 9223372036854775807 then (if x4_1.length < 8796093022208 then (impl_ShowMac.l0 k1 a0 (x4_1 ++ [(⟨#[48]⟩ : ByteArray) ++ t102]) (wrap64 (x5_1 - 8))) else (none)) else (none)) else (if x4_1.length < 8796093022208 then (impl_ShowMac.l0 k1 a0 (x4_1 ++ [t102]) (wrap64 (x5_1 - 8))) else (none)))) = some (r1, r2) := by first | (rw [hji1003] at H; exact H) | (simp only [hji1003] at H ⊢; exact H)
            have hji1003_ : (a0 / 2 ^ min x5_1.toNat 64) = ji1003 := hji1003
            have hji1003z : x5_1 ≤ 64 → (a0 / 2 ^ x5_1.toNat) = ji1003 := shr_small hji1003
            replace H := Option.bind_eq_some_iff.mp H
            obtain ⟨t102, A10040, H⟩ := H
            replace H : (if (t102.size : Int) < 2 then (if 1 + t102.size ≤ 9223372036854775807 then (if x4_1.length < 8796093022208 then (impl_ShowMac.l0 k1 a0 (x4_1 ++ [(⟨#[48]⟩ : ByteArray) ++ t102]) (wrap64 (x5_1 - 8))) else (none)) else (none)) else (if x4_1.length < 8796093022208 then (impl_ShowMac.l0 k1 a0 (x4_1 ++ [t102]) (wrap64 (x5_1 - 8))) else (none))) = some (r1, r2) := H
            have A1004 := Aside0.mk A10040
            clear A10040
            by_cases c1005 : (t102.size : Int) < 2
            · rw [if_pos c1005] at H
              have c1005b0 : decide ((t102.size : Int) < 2) = true := decide_eq_true c1005
              have c1005b1 : decide (t102.size < 2) = true := decide_eq_true (by omega)
              clear c1005
              by_cases c1006 : 1 + t102.size ≤ 9223372036854775807
              · rw [if_pos c1006] at H
                have c1006b0 := eq_true c1006
                have c1006b1 : decide (1 + t102.size ≤ 9223372036854775807) = true := decide_eq_true c1006
                try have c1006b2 : (9223372036854775807 < 1 + t102.size) = False := eq_false (Nat.not_lt.2 c1006)
                by_cases c1007 : x4_1.length < 8796093022208
                · rw [if_pos c1007] at H
                  have LMc1007 := Aside0.mk c1007
                  clear c1007
                  obtain ⟨y103, hy103⟩ : ∃ y_ : List ByteArray, y_ = (x4_1 ++ [(⟨#[48]⟩ : ByteArray) ++ t102]) := ⟨_, rfl⟩
                  replace H : (impl_ShowMac.l0 k1 a0 y103 (wrap64 (x5_1 - 8))) = some (r1, r2) := by first | (rw [hy103]; with_reducible exact H) | (have H2_ := (Option.bind_some _ _).symm.trans H; rw [hy103]; with_reducible exact H2_) | (have H2_ := (Option.bind_some _ _).symm.trans H; with_reducible exact H2_) | with_reducible exact H | (rw [hy103]; exact H) | exact H
                  have Ny103 := Aside0.mk hy103
                  clear hy103
                  have H' := Aside0.mk H
                  clear H
                  go_wp2_with (first | ((with_reducible refine gate_callee (f := 34) rfl ?_); refine goesL_ (some 18) rfl rfl Tryd.func34 (by kernel_rfl) rfl #[.int .i64 (Go.bits .and .i64 (ji1003) 255), .int .i64 16] rfl (by (try simp only [List.map_toArray, List.map_cons, List.map_nil]); first | done | (simp only [hji1003]; rfl) | rfl | (simp only [List.length_drop, List.length_take]; rfl)) ?_; (with_reducible refine (strconv_FormatInt.calls (Go.bits .and .i64 (ji1003) 255) 16 t102 _ ?side1 A1004.out).mono ?_); (case side1 => repeat (first | exact (Door.c_below HD.out HB.out) | (with_reducible refine Door.c_alloc ?_ _) | (with_reducible refine Door.c_drewN ?_ _) | (with_reducible refine Door.c_drew ?_))); rintro e w2001 ⟨rfl, hb⟩; refine ⟨_, rfl, ?_⟩; have n0_ := Aside0.mk (Kd.R_below (Rh HO_4) hb); have n1_ := Aside0.mk (below_step wB hb); clear HO_4; clear HB; have HO_4 := n0_; have HB := n1_; clear n0_ n1_; (try clear hb); (try clear hb2); (try clear hk); (try clear hi)) | ((with_reducible refine gate_builtin (b := .append) (xs := #[.tmp 24, .tmp 26]) rfl ?_); at_builtin; refine Kd.R_append Kd.string (w0 := w) w.heap.size rfl (.tmp 24) (.tmp 26) 54 9 (.string ⟨#[]⟩) 16 rfl Tryd.underlying54 info9 rfl (by decide) (by omega) u4 x4_1 ((⟨#[48]⟩ : ByteArray) ++ t102) [.string ((⟨#[48]⟩ : ByteArray) ++ t102)] (fun _ => True) (fun _ => False) rfl rfl ?aP (fun _ hk => hk.elim) ?aF ?aO ?aB ?aS ?aL ?_; (case aP => exact rfl); (case aB => exact wB); (case aF => exact (fun _ _ => trivial)); (case aO => exact (Rh HO_4)); (case aS => exact (below_size wB)); (case aL => have := LMc1007.out; omega); intro v104 w2002 ho hb hg hat; rw [← Ny103.out] at ho; have n0_ := Aside0.mk (hb); have n1_ := Aside0.mk (ho); clear HB; clear HO_4; have HB := n0_; have HO105 := n1_; clear n0_ n1_; clear ho hb hg hat))
                  go_roundg k1
                  case measure => have := HK1.out; omega
                  case rel => exact ⟨(y103), (wrap64 (x5_1 - 8)), (by first | rfl | (simp; done) | (simp [*]; done)), H', ⟨by have := HK1.out; omega⟩, ⟨Rh HO105⟩, ⟨wB⟩⟩
                · rw [if_neg c1007] at H
                  exact absurd H (by simp)
              · rw [if_neg c1006] at H
                exact absurd H (by simp)
            · rw [if_neg c1005] at H
              have c1005b0 : decide ((t102.size : Int) < 2) = false := decide_eq_false c1005
              have c1005b1 : decide (t102.size < 2) = false := decide_eq_false (by omega)
              clear c1005
              by_cases c1008 : x4_1.length < 8796093022208
              · rw [if_pos c1008] at H
                have LMc1008 := Aside0.mk c1008
                clear c1008
                obtain ⟨y106, hy106⟩ : ∃ y_ : List ByteArray, y_ = (x4_1 ++ [t102]) := ⟨_, rfl⟩
                replace H : (impl_ShowMac.l0 k1 a0 y106 (wrap64 (x5_1 - 8))) = some (r1, r2) := by first | (rw [hy106]; with_reducible exact H) | (have H2_ := (Option.bind_some _ _).symm.trans H; rw [hy106]; with_reducible exact H2_) | (have H2_ := (Option.bind_some _ _).symm.trans H; with_reducible exact H2_) | with_reducible exact H | (rw [hy106]; exact H) | exact H
                have Ny106 := Aside0.mk hy106
                clear hy106
                have H' := Aside0.mk H
                clear H
                go_wp2_with (first | ((with_reducible refine gate_callee (f := 34) rfl ?_); refine goesL_ (some 18) rfl rfl Tryd.func34 (by kernel_rfl) rfl #[.int .i64 (Go.bits .and .i64 (ji1003) 255), .int .i64 16] rfl (by (try simp only [List.map_toArray, List.map_cons, List.map_nil]); first | done | (simp only [hji1003]; rfl) | rfl | (simp only [List.length_drop, List.length_take]; rfl)) ?_; (with_reducible refine (strconv_FormatInt.calls (Go.bits .and .i64 (ji1003) 255) 16 t102 _ ?side1 A1004.out).mono ?_); (case side1 => repeat (first | exact (Door.c_below HD.out HB.out) | (with_reducible refine Door.c_alloc ?_ _) | (with_reducible refine Door.c_drewN ?_ _) | (with_reducible refine Door.c_drew ?_))); rintro e w2001 ⟨rfl, hb⟩; refine ⟨_, rfl, ?_⟩; have n0_ := Aside0.mk (Kd.R_below (Rh HO_4) hb); have n1_ := Aside0.mk (below_step wB hb); clear HO_4; clear HB; have HO_4 := n0_; have HB := n1_; clear n0_ n1_; (try clear hb); (try clear hb2); (try clear hk); (try clear hi)) | ((with_reducible refine gate_builtin (b := .append) (xs := #[.tmp 24, .tmp 26]) rfl ?_); at_builtin; refine Kd.R_append Kd.string (w0 := w) w.heap.size rfl (.tmp 24) (.tmp 26) 54 9 (.string ⟨#[]⟩) 16 rfl Tryd.underlying54 info9 rfl (by decide) (by omega) u4 x4_1 t102 [.string t102] (fun _ => True) (fun _ => False) rfl rfl ?aP (fun _ hk => hk.elim) ?aF ?aO ?aB ?aS ?aL ?_; (case aP => exact rfl); (case aB => exact wB); (case aF => exact (fun _ _ => trivial)); (case aO => exact (Rh HO_4)); (case aS => exact (below_size wB)); (case aL => have := LMc1008.out; omega); intro v107 w2002 ho hb hg hat; rw [← Ny106.out] at ho; have n0_ := Aside0.mk (hb); have n1_ := Aside0.mk (ho); clear HB; clear HO_4; have HB := n0_; have HO108 := n1_; clear n0_ n1_; clear ho hb hg hat))
                go_roundg k1
                case measure => have := HK1.out; omega
                case rel => exact ⟨(y106), (wrap64 (x5_1 - 8)), (by first | rfl | (simp; done) | (simp [*]; done)), H', ⟨by have := HK1.out; omega⟩, ⟨Rh HO108⟩, ⟨wB⟩⟩
              · rw [if_neg c1008] at H
                exact absurd H (by simp)
          · rw [if_neg c1002] at H
            exact absurd H (by simp)
        · rw [if_neg c1001] at H
          have c1001b0 : decide (0 ≤ x5_1) = false := decide_eq_false c1001
          clear c1001
          replace H := Option.bind_eq_some_iff.mp H
          obtain ⟨t109, A10090, H⟩ := H
          replace H : (some (t109, 0)) = some (r1, r2) := H
          have A1009 := Aside0.mk A10090
          clear A10090
          simp only [Option.some.injEq, Prod.mk.injEq] at H
          obtain ⟨rfl, rfl⟩ := H
          obtain ⟨Ao2001, co2001, eo2001⟩ := Kd.R_slice HO_4.out
          subst eo2001
          go_wp2_with (first | ((with_reducible refine gate_callee (f := 35) rfl ?_); refine goesL_ (some 29) rfl rfl Tryd.func35 (by kernel_rfl) rfl #[.slice Ao2001 x4_1.length co2001, .string (⟨#[58]⟩ : ByteArray)] rfl wT ?_; (with_reducible refine (strings_Join.calls _ _ x4_1 (⟨#[58]⟩ : ByteArray) t109 _ ?side1 ?side2 A1009.out).mono ?_); (case side1 => exact Ch HO_4); (case side2 => exact (Kd.R_reads' HO_4.out).2.1); rintro e w2002 ⟨rfl, hb⟩; refine ⟨_, rfl, ?_⟩; have n0_ := Aside0.mk (Kd.R_below (Rh HO_4) hb); have n1_ := Aside0.mk (below_step wB hb); clear HO_4; clear HB; have HO_4 := n0_; have HB := n1_; clear n0_ n1_; (try clear hb); (try clear hb2); (try clear hk); (try clear hi)))
          go_ret2
          exact ⟨by first | rfl | (simp [errW_none, errW_some] <;> rfl) | (simp [*, errW_none, errW_some] <;> rfl), wB⟩
  · replace c3 := Bool.eq_false_iff.mpr c3
    subst c3
    have H1 : (some ((⟨#[]⟩ : ByteArray), 1)) = some (r1, r2) := by rw [if_neg (show ¬ (false = true) by decide)] at H; exact H
    clear H
    have H := H1
    clear H1
    simp only [Option.some.injEq, Prod.mk.injEq] at H
    obtain ⟨rfl, rfl⟩ := H
    go_enter Tryd.func15, Tryd.ntmps15
    go_wp2_with (first | ((with_reducible refine gate_callee (f := 38) rfl ?_); refine goesL_ (some 8) rfl rfl Tryd.func38 (by kernel_rfl) rfl #[.int .i64 a0] rfl wT ?_; (with_reducible refine (impl_isMac.calls a0 false _ A2.out).mono ?_); rintro e w' ⟨rfl, ⟨nd, rfl⟩⟩; refine ⟨_, rfl, ?_⟩))
    go_ret2
    exact ⟨by first | rfl | (simp [errW_none, errW_some] <;> rfl) | (simp [*, errW_none, errW_some] <;> rfl), wB⟩

/-! ### spec_l01In: function 66 -/
def spec_l01In.f (a0 : Int) (a1 : Int) (a2 : Int) : Option (Bool) := if a0 ≥ a1 then (some (decide (a0 ≤ a2))) else (some false)
set_option maxHeartbeats 60000000 in
set_option maxRecDepth 100000 in
theorem spec_l01In.calls (a0 : Int) (a1 : Int) (a2 : Int) (r : Bool) (w : World) (h : spec_l01In.f a0 a1 a2 = some r) :
    Calls Tryd.prog 66 #[.int .i64 a0, .int .i64 a1, .int .i64 a2] w fun e w' => e = .returned (.bool r) ∧ Drawn0 w w' := by
  have H : (if a0 ≥ a1 then (some (decide (a0 ≤ a2))) else (some false)) = some r := h
  clear h
  by_cases c4 : a0 ≥ a1
  · rw [if_pos c4] at H
    have c4b0 : decide (a1 ≤ a0) = true := decide_eq_true c4
    clear c4
    obtain rfl := Option.some.inj H
    go_enter Tryd.func66, Tryd.ntmps66
    go_wp2
    go_ret
    exact ⟨by first | rfl | (simp; done) | (simp [*]; done), by repeat (first | exact Drawn0.refl _ | apply Drawn0.step)⟩
  · rw [if_neg c4] at H
    have c4b0 : decide (a1 ≤ a0) = false := decide_eq_false c4
    clear c4
    obtain rfl := Option.some.inj H
    go_enter Tryd.func66, Tryd.ntmps66
    go_wp2
    go_ret
    exact ⟨by first | rfl | (simp; done) | (simp [*]; done), by repeat (first | exact Drawn0.refl _ | apply Drawn0.step)⟩

/-! ### spec_l02MacOK: function 51 -/
def spec_l02MacOK.f (a0 : Int) : Option (Bool) := (spec_l01In.f a0 0 281474976710655).bind fun t110 => (some t110)
set_option maxHeartbeats 60000000 in
set_option maxRecDepth 100000 in
theorem spec_l02MacOK.calls (a0 : Int) (r : Bool) (w : World) (h : spec_l02MacOK.f a0 = some r) :
    Calls Tryd.prog 51 #[.int .i64 a0] w fun e w' => e = .returned (.bool r) ∧ Drawn0 w w' := by
  have H : ((spec_l01In.f a0 0 281474976710655).bind fun t110 => (some t110)) = some r := h
  clear h
  replace H := Option.bind_eq_some_iff.mp H
  obtain ⟨t110, A20, H⟩ := H
  replace H : (some t110) = some r := H
  have A2 := Aside0.mk A20
  clear A20
  obtain rfl := Option.some.inj H
  go_enter Tryd.func51, Tryd.ntmps51
  go_wp2_with (first | ((with_reducible refine gate_callee (f := 66) rfl ?_); refine goesL_ (some 4) rfl rfl Tryd.func66 (by kernel_rfl) rfl #[.int .i64 a0, .int .i64 0, .int .i64 281474976710655] rfl wT ?_; (with_reducible refine (spec_l01In.calls a0 0 281474976710655 t110 _ A2.out).mono ?_); rintro e w' ⟨rfl, ⟨nd, rfl⟩⟩; refine ⟨_, rfl, ?_⟩))
  go_ret
  exact ⟨by first | rfl | (simp; done) | (simp [*]; done), by repeat (first | exact Drawn0.refl _ | apply Drawn0.step)⟩

/-! ### spec_ShowMac: function 24 -/
def spec_ShowMac.l0 : Nat → Int → ByteArray → ByteArray → Int → Option (ByteArray × Int)
  | 0, _, _, _, _ => none
  | k + 1, x0, x4, x5, x6 => if x6 ≥ 0 then (if 0 ≤ (IntKind.u64.wrap (wrap64 (8 * x6))) then (if 0 ≤ (wrap64 (Int.tdiv (Go.bits .and .i64 (shr .i64 x0 (IntKind.u64.wrap (wrap64 (8 * x6)))) 255) 16)) then (if (wrap64 (Int.tdiv (Go.bits .and .i64 (shr .i64 x0 (IntKind.u64.wrap (wrap64 (8 * x6)))) 255) 16)) ≤ (wrap64 ((wrap64 (Int.tdiv (Go.bits .and .i64 (shr .i64 x0 (IntKind.u64.wrap (wrap64 (8 * x6)))) 255) 16)) + 1)) then (if (wrap64 ((wrap64 (Int.tdiv (Go.bits .and .i64 (shr .i64 x0 (IntKind.u64.wrap (wrap64 (8 * x6)))) 255) 16)) + 1)) ≤ (x4.size : Int) then (if x5.size + (x4.extract ((wrap64 (Int.tdiv (Go.bits .and .i64 (shr .i64 x0 (IntKind.u64.wrap (wrap64 (8 * x6)))) 255) 16)) : Int).toNat ((wrap64 ((wrap64 (Int.tdiv (Go.bits .and .i64 (shr .i64 x0 (IntKind.u64.wrap (wrap64 (8 * x6)))) 255) 16)) + 1)) : Int).toNat).size ≤ 9223372036854775807 then (if 0 ≤ (Int.tmod (Go.bits .and .i64 (shr .i64 x0 (IntKind.u64.wrap (wrap64 (8 * x6)))) 255) 16) then (if (Int.tmod (Go.bits .and .i64 (shr .i64 x0 (IntKind.u64.wrap (wrap64 (8 * x6)))) 255) 16) ≤ (wrap64 ((Int.tmod (Go.bits .and .i64 (shr .i64 x0 (IntKind.u64.wrap (wrap64 (8 * x6)))) 255) 16) + 1)) then (if (wrap64 ((Int.tmod (Go.bits .and .i64 (shr .i64 x0 (IntKind.u64.wrap (wrap64 (8 * x6)))) 255) 16) + 1)) ≤ (x4.size : Int) then (if (x5 ++ (x4.extract ((wrap64 (Int.tdiv (Go.bits .and .i64 (shr .i64 x0 (IntKind.u64.wrap (wrap64 (8 * x6)))) 255) 16)) : Int).toNat ((wrap64 ((wrap64 (Int.tdiv (Go.bits .and .i64 (shr .i64 x0 (IntKind.u64.wrap (wrap64 (8 * x6)))) 255) 16)) + 1)) : Int).toNat)).size + (x4.extract ((Int.tmod (Go.bits .and .i64 (shr .i64 x0 (IntKind.u64.wrap (wrap64 (8 * x6)))) 255) 16) : Int).toNat ((wrap64 ((Int.tmod (Go.bits .and .i64 (shr .i64 x0 (IntKind.u64.wrap (wrap64 (8 * x6)))) 255) 16) + 1)) : Int).toNat).size ≤ 9223372036854775807 then (if x6 > 0 then (if ((x5 ++ (x4.extract ((wrap64 (Int.tdiv (Go.bits .and .i64 (shr .i64 x0 (IntKind.u64.wrap (wrap64 (8 * x6)))) 255) 16)) : Int).toNat ((wrap64 ((wrap64 (Int.tdiv (Go.bits .and .i64 (shr .i64 x0 (IntKind.u64.wrap (wrap64 (8 * x6)))) 255) 16)) + 1)) : Int).toNat)) ++ (x4.extract ((Int.tmod (Go.bits .and .i64 (shr .i64 x0 (IntKind.u64.wrap (wrap64 (8 * x6)))) 255) 16) : Int).toNat ((wrap64 ((Int.tmod (Go.bits .and .i64 (shr .i64 x0 (IntKind.u64.wrap (wrap64 (8 * x6)))) 255) 16) + 1)) : Int).toNat)).size + 1 ≤ 9223372036854775807 then (spec_ShowMac.l0 k x0 x4 (((x5 ++ (x4.extract ((wrap64 (Int.tdiv (Go.bits .and .i64 (shr .i64 x0 (IntKind.u64.wrap (wrap64 (8 * x6)))) 255) 16)) : Int).toNat ((wrap64 ((wrap64 (Int.tdiv (Go.bits .and .i64 (shr .i64 x0 (IntKind.u64.wrap (wrap64 (8 * x6)))) 255) 16)) + 1)) : Int).toNat)) ++ (x4.extract ((Int.tmod (Go.bits .and .i64 (shr .i64 x0 (IntKind.u64.wrap (wrap64 (8 * x6)))) 255) 16) : Int).toNat ((wrap64 ((Int.tmod (Go.bits .and .i64 (shr .i64 x0 (IntKind.u64.wrap (wrap64 (8 * x6)))) 255) 16) + 1)) : Int).toNat)) ++ (⟨#[58]⟩ : ByteArray)) (wrap64 (x6 - 1))) else (none)) else (spec_ShowMac.l0 k x0 x4 ((x5 ++ (x4.extract ((wrap64 (Int.tdiv (Go.bits .and .i64 (shr .i64 x0 (IntKind.u64.wrap (wrap64 (8 * x6)))) 255) 16)) : Int).toNat ((wrap64 ((wrap64 (Int.tdiv (Go.bits .and .i64 (shr .i64 x0 (IntKind.u64.wrap (wrap64 (8 * x6)))) 255) 16)) + 1)) : Int).toNat)) ++ (x4.extract ((Int.tmod (Go.bits .and .i64 (shr .i64 x0 (IntKind.u64.wrap (wrap64 (8 * x6)))) 255) 16) : Int).toNat ((wrap64 ((Int.tmod (Go.bits .and .i64 (shr .i64 x0 (IntKind.u64.wrap (wrap64 (8 * x6)))) 255) 16) + 1)) : Int).toNat)) (wrap64 (x6 - 1)))) else (none)) else (none)) else (none)) else (none)) else (none)) else (none)) else (none)) else (none)) else (none)) else (some (x5, 0))
def spec_ShowMac.f (k : Nat) (a0 : Int) : Option (ByteArray × Int) := (spec_l02MacOK.f a0).bind fun t111 => (if t111 = true then (spec_ShowMac.l0 k a0 (⟨#[48, 49, 50, 51, 52, 53, 54, 55, 56, 57, 97, 98, 99, 100, 101, 102]⟩ : ByteArray) (⟨#[]⟩ : ByteArray) 5) else (some ((⟨#[]⟩ : ByteArray), 1)))
theorem spec_ShowMac.mono_l : ∀ k, (∀ y0 y1 y2 y3, LeO (spec_ShowMac.l0 k y0 y1 y2 y3) (spec_ShowMac.l0 (k + 1) y0 y1 y2 y3))
  | 0 => fun _ _ _ _ r h => by simp [spec_ShowMac.l0] at h
  | k + 1 => by
    have ih0 := spec_ShowMac.mono_l k
    · intro y0 y1 y2 y3
      unfold spec_ShowMac.l0
      repeat' first
      | (with_reducible exact ih0 _ _ _ _)
      | (with_reducible exact LeO.refl _)
      | (with_reducible exact LeO.none _)
      | (with_reducible refine LeO.ite ?_ ?_)
      | (with_reducible refine LeO.bind ?_ (fun _ => ?_))
      | exact ih0 _ _ _ _
      | exact LeO.none _
      | refine LeO.ite ?_ ?_
      | refine LeO.bind ?_ (fun _ => ?_)
theorem spec_ShowMac.mono : ∀ a0 k, LeO (spec_ShowMac.f k a0) (spec_ShowMac.f (k + 1) a0) := by
 intro a0 k
 have ih0 := spec_ShowMac.mono_l k
 unfold spec_ShowMac.f
 repeat' first
     | (with_reducible exact ih0 _ _ _ _)
     | (with_reducible exact LeO.refl _)
     | (with_reducible exact LeO.none _)
     | (with_reducible refine LeO.ite ?_ ?_)
     | (with_reducible refine LeO.bind ?_ (fun _ => ?_))
     | exact ih0 _ _ _ _
     | exact LeO.none _
     | refine LeO.ite ?_ ?_
     | refine LeO.bind ?_ (fun _ => ?_)
set_option maxHeartbeats 60000000 in
set_option maxRecDepth 100000 in
theorem spec_ShowMac.calls (k : Nat) (a0 : Int) (r1 : ByteArray) (r2 : Int) (w : World) (h : spec_ShowMac.f k a0 = some (r1, r2)) :
 Calls Tryd.prog 24 #[.int .i64 a0] w fun e w' => e = .returned (.tuple #[.string r1, .int .i64 r2]) ∧ Drawn0 w w' := by
 have H : ((spec_l02MacOK.f a0).bind fun t111 => (if t111 = true then (spec_ShowMac.l0 k a0 (⟨#[48, 49, 50, 51, 52, 53, 54, 55, 56, 57, 97, 98, 99, 100, 101, 102]⟩ : ByteArray) (⟨#[]⟩ : ByteArray) 5) else (some ((⟨#[]⟩ : ByteArray), 1)))) = some (r1, r2) := h
 clear h
 replace H := Option.bind_eq_some_iff.mp H
 obtain ⟨t111, A20, H⟩ := H
 replace H : (if t111 = true then (spec_ShowMac.l0 k a0 (⟨#[48, 49, 50, 51, 52, 53, 54, 55, 56, 57, 97, 98, 99, 100, 101, 102]⟩ : ByteArray) (⟨#[]⟩ : ByteArray) 5) else (some ((⟨#[]⟩ : ByteArray), 1))) = some (r1, r2) := H
 have A2 := Aside0.mk A20
 clear A20
 by_cases c3 : t111 = true
 subst c3
 have H1 : (spec_ShowMac.l0 k a0 (⟨#[48, 49, 50, 51, 52, 53, 54, 55, 56, 57, 97, 98, 99, 100, 101, 102]⟩ : ByteArray) (⟨#[]⟩ : ByteArray) 5) = some (r1, r2) := by rw [if_pos rfl] at H; exact H
 clear H
 have H := H1
 clear H1
 have H' := Aside0.mk H
 clear H
 rotate_left
 replace c3 := Bool.eq_false_iff.mpr c3
 subst c3
 have H1 : (some ((⟨#[]⟩ : ByteArray), 1)) = some (r1, r2) := by rw [if_neg (show ¬ (false = true) by decide)] at H; exact H
 clear H
 have H := H1
 clear H1
 simp only [Option.some.injEq, Prod.mk.injEq] at H
 obtain ⟨rfl, rfl⟩ := H
 rotate_left
 all_goals (
 go_enter Tryd.func24, Tryd.ntmps24
 go_wp2_with (first | (go_at_call 51; (with_reducible refine (spec_l02MacOK.calls a0 _ _ A2.out).mono ?_); rintro e w' ⟨rfl, ⟨nd, rfl⟩⟩; (try first | exact ⟨rfl, _, World.drewN_drewN _ _ _⟩ | exact ⟨rfl, _, Eq.trans (World.drewN_drewN _ _ _) (congrArg (World.drewN _) (Nat.add_assoc _ _ _))⟩)))
 repeat (go_quiet (first | (go_at_call 51; (with_reducible refine (spec_l02MacOK.calls a0 _ _ A2.out).mono ?_); rintro e w' ⟨rfl, ⟨nd, rfl⟩⟩; (try first | exact ⟨rfl, _, World.drewN_drewN _ _ _⟩ | exact ⟨rfl, _, Eq.trans (World.drewN_drewN _ _ _) (congrArg (World.drewN _) (Nat.add_assoc _ _ _))⟩))); try go_wp2_with (first | (go_at_call 51; (with_reducible refine (spec_l02MacOK.calls a0 _ _ A2.out).mono ?_); rintro e w' ⟨rfl, ⟨nd, rfl⟩⟩; (try first | exact ⟨rfl, _, World.drewN_drewN _ _ _⟩ | exact ⟨rfl, _, Eq.trans (World.drewN_drewN _ _ _) (congrArg (World.drewN _) (Nat.add_assoc _ _ _))⟩))))
 )
 {
 go_loopg [5, 6] k (fun kq v5 v6 w' => ∃ (x5_1 : ByteArray) (x6_1 : Int), v5 = .string x5_1 ∧ v6 = .int .i64 x6_1 ∧ Aside0 (spec_ShowMac.l0 kq a0 (⟨#[48, 49, 50, 51, 52, 53, 54, 55, 56, 57, 97, 98, 99, 100, 101, 102]⟩ : ByteArray) x5_1 x6_1 = some (r1, r2)) ∧ Aside0 (kq ≤ k) ∧ Drawn0 w w')
 case atStart => exact ⟨((⟨#[]⟩ : ByteArray)), (5), (by first | rfl | (simp; done) | (simp [*]; done)), (by first | rfl | (simp; done) | (simp [*]; done)), H', ⟨Nat.le_refl _⟩, by repeat (first | exact Drawn0.refl _ | apply Drawn0.step)⟩
 case round => (
 clear H'
 try clear c3
 obtain ⟨x5_1, x6_1, rfl, rfl, HA, HK1, ⟨m1, rfl⟩⟩ := hrel
 cases gk with
 | zero => exact absurd HA.out (by simp [spec_ShowMac.l0])
 | succ k1 => {
 have H := HA.out
 clear HA
 simp only [spec_ShowMac.l0] at H
 by_cases c1001 : x6_1 ≥ 0
 {
 rw [if_pos c1001] at H
 have c1001b0 : decide (0 ≤ x6_1) = true := decide_eq_true c1001
 clear c1001
 obtain ⟨ji1002, hji1002⟩ : ∃ j_ : Int, (IntKind.u64.wrap (wrap64 (8 * x6_1))) = j_ := ⟨_, rfl⟩
 replace H : (if 0 ≤ (ji1002) then (if 0 ≤ (wrap64 (Int.tdiv (Go.bits .and .i64 (shr .i64 a0 (ji1002)) 255) 16)) then (if (wrap64 (Int.tdiv (Go.bits .and .i64 (shr .i64 a0 (ji1002)) 255) 16)) ≤ (wrap64 ((wrap64 (Int.tdiv (Go.bits .and .i64 (shr .i64 a0 (ji1002)) 255) 16)) + 1)) then (if (wrap64 ((wrap64 (Int.tdiv (Go.bits .and .i64 (shr .i64 a0 (ji1002)) 255) 16)) + 1)) ≤ ((⟨#[48, 49, 50, 51, 52, 53, 54, 55, 56, 57, 97, 98, 99, 100, 101, 102]⟩ : ByteArray).size : Int) then (if x5_1.size + ((⟨#[48, 49, 50, 51, 52, 53, 54, 55, 56, 57, 97, 98, 99, 100, 101, 102]⟩ : ByteArray).extract ((wrap64 (Int.tdiv (Go.bits .and .i64 (shr .i64 a0 (ji1002)) 255) 16)) : Int).toNat ((wrap64 ((wrap64 (Int.tdiv (Go.bits .and .i64 (shr .i64 a0 (ji1002)) 255) 16)) + 1)) : Int).toNat).size ≤ 9223372036854775807 then (if 0 ≤ (Int.tmod (Go.bits .and .i64 (shr .i64 a0 (ji1002)) 255) 16) then (if (Int.tmod (Go.bits .and .i64 (shr .i64 a0 (ji1002)) 255) 16) ≤ (wrap64 ((Int.tmod (Go.bits .and .i64 (shr .i64 a0 (ji1002)) 255) 16) + 1)) then (if (wrap64 ((Int.tmod (Go.bits .and .i64 (shr .i64 a0 (ji1002)) 255) 16) + 1)) ≤ ((⟨#[48, 49, 50, 51, 52, 53, 54, 55, 56, 57, 97, 98, 99, 100, 101, 102]⟩ : ByteArray).size : Int) then (if (x5_1 ++ ((⟨#[48, 49, 50, 51, 52, 53, 54, 55, 56, 57, 97, 98, 99, 100, 101, 102]⟩ : ByteArray).extract ((wrap64 (Int.tdiv (Go.bits .and .i64 (shr .i64 a0 (ji1002)) 255) 16)) : Int).toNat ((wrap64 ((wrap64 (Int.tdiv (Go.bits .and .i64 (shr .i64 a0 (ji1002)) 255) 16)) + 1)) : Int).toNat)).size + ((⟨#[48, 49, 50, 51, 52, 53, 54, 55, 56, 57, 97, 98, 99, 100, 101, 102]⟩ : ByteArray).extract ((Int.tmod (Go.bits .and .i64 (shr .i64 a0 (ji1002)) 255) 16) : Int).toNat ((wrap64 ((Int.tmod (Go.bits .and .i64 (shr .i64 a0 (ji1002)) 255) 16) + 1)) : Int).toNat).size ≤ 9223372036854775807 then (if x6_1 > 0 then (if ((x5_1 ++ ((⟨#[48, 49, 50, 51, 52, 53, 54, 55, 56, 57, 97, 98, 99, 100, 101, 102]⟩ : ByteArray).extract ((wrap64 (Int.tdiv (Go.bits .and .i64 (shr .i64 a0 (ji1002)) 255) 16)) : Int).toNat ((wrap64 ((wrap64 (Int.tdiv (Go.bits .and .i64 (shr .i64 a0 (ji1002)) 255) 16)) + 1)) : Int).toNat)) ++ ((⟨#[48, 49, 50, 51, 52, 53, 54, 55, 56, 57, 97, 98, 99, 100, 101, 102]⟩ : ByteArray).extract ((Int.tmod (Go.bits .and .i64 (shr .i64 a0 (ji1002)) 255) 16) : Int).toNat ((wrap64 ((Int.tmod (Go.bits .and .i64 (shr .i64 a0 (ji1002)) 255) 16) + 1)) : Int).toNat)).size + 1 ≤ 9223372036854775807 then (spec_ShowMac.l0 k1 a0 (⟨#[48, 49, 50, 51, 52, 53, 54, 55, 56, 57, 97, 98, 99, 100, 101, 102]⟩ : ByteArray) (((x5_1 ++ ((⟨#[48, 49, 50, 51, 52, 53, 54, 55, 56, 57, 97, 98, 99, 100, 101, 102]⟩ : ByteArray).extract ((wrap64 (Int.tdiv (Go.bits .and .i64 (shr .i64 a0 (ji1002)) 255) 16)) : Int).toNat ((wrap64 ((wrap64 (Int.tdiv (Go.bits .and .i64 (shr .i64 a0 (ji1002)) 255) 16)) + 1)) : Int).toNat)) ++ ((⟨#[48, 49, 50, 51, 52, 53, 54, 55, 56, 57, 97, 98, 99, 100, 101, 102]⟩ : ByteArray).extract ((Int.tmod (Go.bits .and .i64 (shr .i64 a0 (ji1002)) 255) 16) : Int).toNat ((wrap64 ((Int.tmod (Go.bits .and .i64 (shr .i64 a0 (ji1002)) 255) 16) + 1)) : Int).toNat)) ++ (⟨#[58]⟩ : ByteArray)) (wrap64 (x6_1 - 1))) else (none)) else (spec_ShowMac.l0 k1 a0 (⟨#[48, 49, 50, 51, 52, 53, 54, 55, 56, 57, 97, 98, 99, 100, 101, 102]⟩ : ByteArray) ((x5_1 ++ ((⟨#[48, 49, 50, 51, 52, 53, 54, 55, 56, 57, 97, 98, 99, 100, 101, 102]⟩ : ByteArray).extract ((wrap64 (Int.tdiv (Go.bits .and .i64 (shr .i64 a0 (ji1002)) 255) 16)) : Int).toNat ((wrap64 ((wrap64 (Int.tdiv (Go.bits .and .i64 (shr .i64 a0 (ji1002)) 255) 16)) + 1)) : Int).toNat)) ++ ((⟨#[48, 49, 50, 51, 52, 53, 54, 55, 56, 57, 97, 98, 99, 100, 101, 102]⟩ : ByteArray).extract ((Int.tmod (Go.bits .and .i64 (shr .i64 a0 (ji1002)) 255) 16) : Int).toNat ((wrap64 ((Int.tmod (Go.bits .and .i64 (shr .i64 a0 (ji1002)) 255) 16) + 1)) : Int).toNat)) (wrap64 (x6_1 - 1)))) else (none)) else (none)) else (none)) else (none)) else (none)) else (none)) else (none)) else (none)) else (none)) = some (r1, r2) := by first | (rw [hji1002] at H; exact H) | (simp only [hji1002] at H ⊢; exact H)
 by_cases c1003 : 0 ≤ (ji1002)
 {
 rw [if_pos c1003] at H
 have c1003b0 := eq_true c1003
 have c1003b1 : decide (0 ≤ (ji1002)) = true := decide_eq_true c1003
 clear c1003
 obtain ⟨ji1004, hji1004⟩ : ∃ j_ : Int, (shr .i64 a0 (ji1002)) = j_ := ⟨_, rfl⟩
 replace H : (if 0 ≤ (wrap64 (Int.tdiv (Go.bits .and .i64 (ji1004) 255) 16)) then (if (wrap64 (Int.tdiv (Go.bits .and .i64 (ji1004) 255) 16)) ≤ (wrap64 ((wrap64 (Int.tdiv (Go.bits .and .i64 (ji1004) 255) 16)) + 1)) then (if (wrap64 ((wrap64 (Int.tdiv (Go.bits .and .i64 (ji1004) 255) 16)) + 1)) ≤ ((⟨#[48, 49, 50, 51, 52, 53, 54, 55, 56, 57, 97, 98, 99, 100, 101, 102]⟩ : ByteArray).size : Int) then (if x5_1.size + ((⟨#[48, 49, 50, 51, 52, 53, 54, 55, 56, 57, 97, 98, 99, 100, 101, 102]⟩ : ByteArray).extract ((wrap64 (Int.tdiv (Go.bits .and .i64 (ji1004) 255) 16)) : Int).toNat ((wrap64 ((wrap64 (Int.tdiv (Go.bits .and .i64 (ji1004) 255) 16)) + 1)) : Int).toNat).size ≤ 9223372036854775807 then (if 0 ≤ (Int.tmod (Go.bits .and .i64 (ji1004) 255) 16) then (if (Int.tmod (Go.bits .and .i64 (ji1004) 255) 16) ≤ (wrap64 ((Int.tmod (Go.bits .and .i64 (ji1004) 255) 16) + 1)) then (if (wrap64 ((Int.tmod (Go.bits .and .i64 (ji1004) 255) 16) + 1)) ≤ ((⟨#[48, 49, 50, 51, 52, 53, 54, 55, 56, 57, 97, 98, 99, 100, 101, 102]⟩ : ByteArray).size : Int) then (if (x5_1 ++ ((⟨#[48, 49, 50, 51, 52, 53, 54, 55, 56, 57, 97, 98, 99, 100, 101, 102]⟩ : ByteArray).extract ((wrap64 (Int.tdiv (Go.bits .and .i64 (ji1004) 255) 16)) : Int).toNat ((wrap64 ((wrap64 (Int.tdiv (Go.bits .and .i64 (ji1004) 255) 16)) + 1)) : Int).toNat)).size + ((⟨#[48, 49, 50, 51, 52, 53, 54, 55, 56, 57, 97, 98, 99, 100, 101, 102]⟩ : ByteArray).extract ((Int.tmod (Go.bits .and .i64 (ji1004) 255) 16) : Int).toNat ((wrap64 ((Int.tmod (Go.bits .and .i64 (ji1004) 255) 16) + 1)) : Int).toNat).size ≤ 9223372036854775807 then (if x6_1 > 0 then (if ((x5_1 ++ ((⟨#[48, 49, 50, 51, 52, 53, 54, 55, 56, 57, 97, 98, 99, 100, 101, 102]⟩ : ByteArray).extract ((wrap64 (Int.tdiv (Go.bits .and .i64 (ji1004) 255) 16)) : Int).toNat ((wrap64 ((wrap64 (Int.tdiv (Go.bits .and .i64 (ji1004) 255) 16)) + 1)) : Int).toNat)) ++ ((⟨#[48, 49, 50, 51, 52, 53, 54, 55, 56, 57, 97, 98, 99, 100, 101, 102]⟩ : ByteArray).extract ((Int.tmod (Go.bits .and .i64 (ji1004) 255) 16) : Int).toNat ((wrap64 ((Int.tmod (Go.bits .and .i64 (ji1004) 255) 16) + 1)) : Int).toNat)).size + 1 ≤ 9223372036854775807 then (spec_ShowMac.l0 k1 a0 (⟨#[48, 49, 50, 51, 52, 53, 54, 55, 56, 57, 97, 98, 99, 100, 101, 102]⟩ : ByteArray) (((x5_1 ++ ((⟨#[48, 49, 50, 51, 52, 53, 54, 55, 56, 57, 97, 98, 99, 100, 101, 102]⟩ : ByteArray).extract ((wrap64 (Int.tdiv (Go.bits .and .i64 (ji1004) 255) 16)) : Int).toNat ((wrap64 ((wrap64 (Int.tdiv (Go.bits .and .i64 (ji1004) 255) 16)) + 1)) : Int).toNat)) ++ ((⟨#[48, 49, 50, 51, 52, 53, 54, 55, 56, 57, 97, 98, 99, 100, 101, 102]⟩ : ByteArray).extract ((Int.tmod (Go.bits .and .i64 (ji1004) 255) 16) : Int).toNat ((wrap64 ((Int.tmod (Go.bits .and .i64 (ji1004) 255) 16) + 1)) : Int).toNat)) ++ (⟨#[58]⟩ : ByteArray)) (wrap64 (x6_1 - 1))) else (none)) else (spec_ShowMac.l0 k1 a0 (⟨#[48, 49, 50, 51, 52, 53, 54, 55, 56, 57, 97, 98, 99, 100, 101, 102]⟩ : ByteArray) ((x5_1 ++ ((⟨#[48, 49, 50, 51, 52, 53, 54, 55, 56, 57, 97, 98, 99, 100, 101, 102]⟩ : ByteArray).extract ((wrap64 (Int.tdiv (Go.bits .and .i64 (ji1004) 255) 16)) : Int).toNat ((wrap64 ((wrap64 (Int.tdiv (Go.bits .and .i64 (ji1004) 255) 16)) + 1)) : Int).toNat)) ++ ((⟨#[48, 49, 50, 51, 52, 53, 54, 55, 56, 57, 97, 98, 99, 100, 101, 102]⟩ : ByteArray).extract ((Int.tmod (Go.bits .and .i64 (ji1004) 255) 16) : Int).toNat ((wrap64 ((Int.tmod (Go.bits .and .i64 (ji1004) 255) 16) + 1)) : Int).toNat)) (wrap64 (x6_1 - 1)))) else (none)) else (none)) else (none)) else (none)) else (none)) else (none)) else (none)) else (none)) = some (r1, r2) := by first | (rw [hji1004] at H; exact H) | (simp only [hji1004] at H ⊢; exact H)
 have hji1004_ : (a0 / 2 ^ min (ji1002).toNat 64) = ji1004 := hji1004
 have hji1004z : (ji1002) ≤ 64 → (a0 / 2 ^ (ji1002).toNat) = ji1004 := shr_small hji1004
 obtain ⟨ji1005, hji1005⟩ : ∃ j_ : Int, (wrap64 (Int.tdiv (Go.bits .and .i64 (ji1004) 255) 16)) = j_ := ⟨_, rfl⟩
 replace H : (if 0 ≤ (ji1005) then (if (ji1005) ≤ (wrap64 ((ji1005) + 1)) then (if (wrap64 ((ji1005) + 1)) ≤ ((⟨#[48, 49, 50, 51, 52, 53, 54, 55, 56, 57, 97, 98, 99, 100, 101, 102]⟩ : ByteArray).size : Int) then (if x5_1.size + ((⟨#[48, 49, 50, 51, 52, 53, 54, 55, 56, 57, 97, 98, 99, 100, 101, 102]⟩ : ByteArray).extract ((ji1005) : Int).toNat ((wrap64 ((ji1005) + 1)) : Int).toNat).size ≤ 9223372036854775807 then (if 0 ≤ (Int.tmod (Go.bits .and .i64 (ji1004) 255) 16) then (if (Int.tmod (Go.bits .and .i64 (ji1004) 255) 16) ≤ (wrap64 ((Int.tmod (Go.bits .and .i64 (ji1004) 255) 16) + 1)) then (if (wrap64 ((Int.tmod (Go.bits .and .i64 (ji1004) 255) 16) + 1)) ≤ ((⟨#[48, 49, 50, 51, 52, 53, 54, 55, 56, 57, 97, 98, 99, 100, 101, 102]⟩ : ByteArray).size : Int) then (if (x5_1 ++ ((⟨#[48, 49, 50, 51, 52, 53, 54, 55, 56, 57, 97, 98, 99, 100, 101, 102]⟩ : ByteArray).extract ((ji1005) : Int).toNat ((wrap64 ((ji1005) + 1)) : Int).toNat)).size + ((⟨#[48, 49, 50, 51, 52, 53, 54, 55, 56, 57, 97, 98, 99, 100, 101, 102]⟩ : ByteArray).extract ((Int.tmod (Go.bits .and .i64 (ji1004) 255) 16) : Int).toNat ((wrap64 ((Int.tmod (Go.bits .and .i64 (ji1004) 255) 16) + 1)) : Int).toNat).size ≤ 9223372036854775807 then (if x6_1 > 0 then (if ((x5_1 ++ ((⟨#[48, 49, 50, 51, 52, 53, 54, 55, 56, 57, 97, 98, 99, 100, 101, 102]⟩ : ByteArray).extract ((ji1005) : Int).toNat ((wrap64 ((ji1005) + 1)) : Int).toNat)) ++ ((⟨#[48, 49, 50, 51, 52, 53, 54, 55, 56, 57, 97, 98, 99, 100, 101, 102]⟩ : ByteArray).extract ((Int.tmod (Go.bits .and .i64 (ji1004) 255) 16) : Int).toNat ((wrap64 ((Int.tmod (Go.bits .and .i64 (ji1004) 255) 16) + 1)) : Int).toNat)).size + 1 ≤ 9223372036854775807 then (spec_ShowMac.l0 k1 a0 (⟨#[48, 49, 50, 51, 52, 53, 54, 55, 56, 57, 97, 98, 99, 100, 101, 102]⟩ : ByteArray) (((x5_1 ++ ((⟨#[48, 49, 50, 51, 52, 53, 54, 55, 56, 57, 97, 98, 99, 100, 101, 102]⟩ : ByteArray).extract ((ji1005) : Int).toNat ((wrap64 ((ji1005) + 1)) : Int).toNat)) ++ ((⟨#[48, 49, 50, 51, 52, 53, 54, 55, 56, 57, 97, 98, 99, 100, 101, 102]⟩ : ByteArray).extract ((Int.tmod (Go.bits .and .i64 (ji1004) 255) 16) : Int).toNat ((wrap64 ((Int.tmod (Go.bits .and .i64 (ji1004) 255) 16) + 1)) : Int).toNat)) ++ (⟨#[58]⟩ : ByteArray)) (wrap64 (x6_1 - 1))) else (none)) else (spec_ShowMac.l0 k1 a0 (⟨#[48, 49, 50, 51, 52, 53, 54, 55, 56, 57, 97, 98, 99, 100, 101, 102]⟩ : ByteArray) ((x5_1 ++ ((⟨#[48, 49, 50, 51, 52, 53, 54, 55, 56, 57, 97, 98, 99, 100, 101, 102]⟩ : ByteArray).extract ((ji1005) : Int).toNat ((wrap64 ((ji1005) + 1)) : Int).toNat)) ++ ((⟨#[48, 49, 50, 51, 52, 53, 54, 55, 56, 57, 97, 98, 99, 100, 101, 102]⟩ : ByteArray).extract ((Int.tmod (Go.bits .and .i64 (ji1004) 255) 16) : Int).toNat ((wrap64 ((Int.tmod (Go.bits .and .i64 (ji1004) 255) 16) + 1)) : Int).toNat)) (wrap64 (x6_1 - 1)))) else (none)) else (none)) else (none)) else (none)) else (none)) else (none)) else (none)) else (none)) = some (r1, r2) := by first | (rw [hji1005] at H; exact H) | (simp only [hji1005] at H ⊢; exact H)
 have hji1005w : (IntKind.i64.wrap (Int.tdiv (Go.bits .and .i64 (ji1004) 255) 16)) = ji1005 := (i64_w _).trans hji1005
 by_cases c1006 : 0 ≤ (ji1005)
 {
 rw [if_pos c1006] at H
 have c1006b0 := eq_true c1006
 have c1006b1 : decide (0 ≤ (ji1005)) = true := decide_eq_true c1006
 clear c1006
 by_cases c1007 : (ji1005) ≤ (wrap64 ((ji1005) + 1))
 {
 rw [if_pos c1007] at H
 have c1007b0 := eq_true c1007
 have c1007b1 : decide ((ji1005) ≤ (wrap64 ((ji1005) + 1))) = true := decide_eq_true c1007
 (try (have c1007bw0 := c1007b0; simp only [← i64_w] at c1007bw0))
 (try (have c1007bw1 := c1007b1; simp only [← i64_w] at c1007bw1))
 (try (have c1007bw2 := c1007b2; simp only [← i64_w] at c1007bw2))
 by_cases c1008 : (wrap64 ((ji1005) + 1)) ≤ ((⟨#[48, 49, 50, 51, 52, 53, 54, 55, 56, 57, 97, 98, 99, 100, 101, 102]⟩ : ByteArray).size : Int)
 {
 rw [if_pos c1008] at H
 have c1008b0 := eq_true c1008
 have c1008b1 : decide ((wrap64 ((ji1005) + 1)) ≤ ((⟨#[48, 49, 50, 51, 52, 53, 54, 55, 56, 57, 97, 98, 99, 100, 101, 102]⟩ : ByteArray).size : Int)) = true := decide_eq_true c1008
 have HMNc1008 : ((wrap64 ((ji1005) + 1)) : Int).toNat ≤ (⟨#[48, 49, 50, 51, 52, 53, 54, 55, 56, 57, 97, 98, 99, 100, 101, 102]⟩ : ByteArray).size := by have h_ := c1008; omega
 (try (have c1008bw0 := c1008b0; simp only [← i64_w] at c1008bw0))
 (try (have c1008bz0 := c1008b0; simp only [← i64_w, show ((⟨#[48, 49, 50, 51, 52, 53, 54, 55, 56, 57, 97, 98, 99, 100, 101, 102]⟩ : ByteArray).size : Int) = 16 from rfl] at c1008bz0))
 (try (have c1008bw1 := c1008b1; simp only [← i64_w] at c1008bw1))
 (try (have c1008bz1 := c1008b1; simp only [← i64_w, show ((⟨#[48, 49, 50, 51, 52, 53, 54, 55, 56, 57, 97, 98, 99, 100, 101, 102]⟩ : ByteArray).size : Int) = 16 from rfl] at c1008bz1))
 (try (have c1008bw2 := c1008b2; simp only [← i64_w] at c1008bw2))
 by_cases c1009 : x5_1.size + ((⟨#[48, 49, 50, 51, 52, 53, 54, 55, 56, 57, 97, 98, 99, 100, 101, 102]⟩ : ByteArray).extract ((ji1005) : Int).toNat ((wrap64 ((ji1005) + 1)) : Int).toNat).size ≤ 9223372036854775807
 {
 rw [if_pos c1009] at H
 have c1009b0 := eq_true c1009
 have c1009b1 : decide (x5_1.size + ((⟨#[48, 49, 50, 51, 52, 53, 54, 55, 56, 57, 97, 98, 99, 100, 101, 102]⟩ : ByteArray).extract ((ji1005) : Int).toNat ((wrap64 ((ji1005) + 1)) : Int).toNat).size ≤ 9223372036854775807) = true := decide_eq_true c1009
 try have c1009b2 : (9223372036854775807 < x5_1.size + ((⟨#[48, 49, 50, 51, 52, 53, 54, 55, 56, 57, 97, 98, 99, 100, 101, 102]⟩ : ByteArray).extract ((ji1005) : Int).toNat ((wrap64 ((ji1005) + 1)) : Int).toNat).size) = False := eq_false (Nat.not_lt.2 c1009)
 (try (have c1009bx2 := c1009b2; simp only [ByteArray.size_append, ByteArray.size_extract, Nat.min_eq_left HMNc1008] at c1009bx2; simp only [← i64_w] at c1009bx2))
 (try (have c1009bw0 := c1009b0; simp only [← i64_w] at c1009bw0))
 (try (have c1009bz0 := c1009b0; simp only [← i64_w, show ((⟨#[48, 49, 50, 51, 52, 53, 54, 55, 56, 57, 97, 98, 99, 100, 101, 102]⟩ : ByteArray).size : Int) = 16 from rfl] at c1009bz0))
 (try (have c1009bw1 := c1009b1; simp only [← i64_w] at c1009bw1))
 (try (have c1009bz1 := c1009b1; simp only [← i64_w, show ((⟨#[48, 49, 50, 51, 52, 53, 54, 55, 56, 57, 97, 98, 99, 100, 101, 102]⟩ : ByteArray).size : Int) = 16 from rfl] at c1009bz1))
 (try (have c1009bw2 := c1009b2; simp only [← i64_w] at c1009bw2))
 obtain ⟨ji1010, hji1010⟩ : ∃ j_ : Int, (Int.tmod (Go.bits .and .i64 (ji1004) 255) 16) = j_ := ⟨_, rfl⟩
 replace H : (if 0 ≤ (ji1010) then (if (ji1010) ≤ (wrap64 ((ji1010) + 1)) then (if (wrap64 ((ji1010) + 1)) ≤ ((⟨#[48, 49, 50, 51, 52, 53, 54, 55, 56, 57, 97, 98, 99, 100, 101, 102]⟩ : ByteArray).size : Int) then (if (x5_1 ++ ((⟨#[48, 49, 50, 51, 52, 53, 54, 55, 56, 57, 97, 98, 99, 100, 101, 102]⟩ : ByteArray).extract ((ji1005) : Int).toNat ((wrap64 ((ji1005) + 1)) : Int).toNat)).size + ((⟨#[48, 49, 50, 51, 52, 53, 54, 55, 56, 57, 97, 98, 99, 100, 101, 102]⟩ : ByteArray).extract ((ji1010) : Int).toNat ((wrap64 ((ji1010) + 1)) : Int).toNat).size ≤ 9223372036854775807 then (if x6_1 > 0 then (if ((x5_1 ++ ((⟨#[48, 49, 50, 51, 52, 53, 54, 55, 56, 57, 97, 98, 99, 100, 101, 102]⟩ : ByteArray).extract ((ji1005) : Int).toNat ((wrap64 ((ji1005) + 1)) : Int).toNat)) ++ ((⟨#[48, 49, 50, 51, 52, 53, 54, 55, 56, 57, 97, 98, 99, 100, 101, 102]⟩ : ByteArray).extract ((ji1010) : Int).toNat ((wrap64 ((ji1010) + 1)) : Int).toNat)).size + 1 ≤ 9223372036854775807 then (spec_ShowMac.l0 k1 a0 (⟨#[48, 49, 50, 51, 52, 53, 54, 55, 56, 57, 97, 98, 99, 100, 101, 102]⟩ : ByteArray) (((x5_1 ++ ((⟨#[48, 49, 50, 51, 52, 53, 54, 55, 56, 57, 97, 98, 99, 100, 101, 102]⟩ : ByteArray).extract ((ji1005) : Int).toNat ((wrap64 ((ji1005) + 1)) : Int).toNat)) ++ ((⟨#[48, 49, 50, 51, 52, 53, 54, 55, 56, 57, 97, 98, 99, 100, 101, 102]⟩ : ByteArray).extract ((ji1010) : Int).toNat ((wrap64 ((ji1010) + 1)) : Int).toNat)) ++ (⟨#[58]⟩ : ByteArray)) (wrap64 (x6_1 - 1))) else (none)) else (spec_ShowMac.l0 k1 a0 (⟨#[48, 49, 50, 51, 52, 53, 54, 55, 56, 57, 97, 98, 99, 100, 101, 102]⟩ : ByteArray) ((x5_1 ++ ((⟨#[48, 49, 50, 51, 52, 53, 54, 55, 56, 57, 97, 98, 99, 100, 101, 102]⟩ : ByteArray).extract ((ji1005) : Int).toNat ((wrap64 ((ji1005) + 1)) : Int).toNat)) ++ ((⟨#[48, 49, 50, 51, 52, 53, 54, 55, 56, 57, 97, 98, 99, 100, 101, 102]⟩ : ByteArray).extract ((ji1010) : Int).toNat ((wrap64 ((ji1010) + 1)) : Int).toNat)) (wrap64 (x6_1 - 1)))) else (none)) else (none)) else (none)) else (none)) = some (r1, r2) := by first | (rw [hji1010] at H; exact H) | (simp only [hji1010] at H ⊢; exact H)
 by_cases c1011 : 0 ≤ (ji1010)
 {
 rw [if_pos c1011] at H
 have c1011b0 := eq_true c1011
 have c1011b1 : decide (0 ≤ (ji1010)) = true := decide_eq_true c1011
 clear c1011
 by_cases c1012 : (ji1010) ≤ (wrap64 ((ji1010) + 1))
 {
 rw [if_pos c1012] at H
 have c1012b0 := eq_true c1012
 have c1012b1 : decide ((ji1010) ≤ (wrap64 ((ji1010) + 1))) = true := decide_eq_true c1012
 (try (have c1012bw0 := c1012b0; simp only [← i64_w] at c1012bw0))
 (try (have c1012bw1 := c1012b1; simp only [← i64_w] at c1012bw1))
 (try (have c1012bw2 := c1012b2; simp only [← i64_w] at c1012bw2))
 by_cases c1013 : (wrap64 ((ji1010) + 1)) ≤ ((⟨#[48, 49, 50, 51, 52, 53, 54, 55, 56, 57, 97, 98, 99, 100, 101, 102]⟩ : ByteArray).size : Int)
 {
 rw [if_pos c1013] at H
 have c1013b0 := eq_true c1013
 have c1013b1 : decide ((wrap64 ((ji1010) + 1)) ≤ ((⟨#[48, 49, 50, 51, 52, 53, 54, 55, 56, 57, 97, 98, 99, 100, 101, 102]⟩ : ByteArray).size : Int)) = true := decide_eq_true c1013
 have HMNc1013 : ((wrap64 ((ji1010) + 1)) : Int).toNat ≤ (⟨#[48, 49, 50, 51, 52, 53, 54, 55, 56, 57, 97, 98, 99, 100, 101, 102]⟩ : ByteArray).size := by have h_ := c1013; omega
 (try (have c1013bw0 := c1013b0; simp only [← i64_w] at c1013bw0))
 (try (have c1013bz0 := c1013b0; simp only [← i64_w, show ((⟨#[48, 49, 50, 51, 52, 53, 54, 55, 56, 57, 97, 98, 99, 100, 101, 102]⟩ : ByteArray).size : Int) = 16 from rfl] at c1013bz0))
 (try (have c1013bw1 := c1013b1; simp only [← i64_w] at c1013bw1))
 (try (have c1013bz1 := c1013b1; simp only [← i64_w, show ((⟨#[48, 49, 50, 51, 52, 53, 54, 55, 56, 57, 97, 98, 99, 100, 101, 102]⟩ : ByteArray).size : Int) = 16 from rfl] at c1013bz1))
 (try (have c1013bw2 := c1013b2; simp only [← i64_w] at c1013bw2))
 by_cases c1014 : (x5_1 ++ ((⟨#[48, 49, 50, 51, 52, 53, 54, 55, 56, 57, 97, 98, 99, 100, 101, 102]⟩ : ByteArray).extract ((ji1005) : Int).toNat ((wrap64 ((ji1005) + 1)) : Int).toNat)).size + ((⟨#[48, 49, 50, 51, 52, 53, 54, 55, 56, 57, 97, 98, 99, 100, 101, 102]⟩ : ByteArray).extract ((ji1010) : Int).toNat ((wrap64 ((ji1010) + 1)) : Int).toNat).size ≤ 9223372036854775807
 {
 rw [if_pos c1014] at H
 have c1014b0 := eq_true c1014
 have c1014b1 : decide ((x5_1 ++ ((⟨#[48, 49, 50, 51, 52, 53, 54, 55, 56, 57, 97, 98, 99, 100, 101, 102]⟩ : ByteArray).extract ((ji1005) : Int).toNat ((wrap64 ((ji1005) + 1)) : Int).toNat)).size + ((⟨#[48, 49, 50, 51, 52, 53, 54, 55, 56, 57, 97, 98, 99, 100, 101, 102]⟩ : ByteArray).extract ((ji1010) : Int).toNat ((wrap64 ((ji1010) + 1)) : Int).toNat).size ≤ 9223372036854775807) = true := decide_eq_true c1014
 try have c1014b2 : (9223372036854775807 < (x5_1 ++ ((⟨#[48, 49, 50, 51, 52, 53, 54, 55, 56, 57, 97, 98, 99, 100, 101, 102]⟩ : ByteArray).extract ((ji1005) : Int).toNat ((wrap64 ((ji1005) + 1)) : Int).toNat)).size + ((⟨#[48, 49, 50, 51, 52, 53, 54, 55, 56, 57, 97, 98, 99, 100, 101, 102]⟩ : ByteArray).extract ((ji1010) : Int).toNat ((wrap64 ((ji1010) + 1)) : Int).toNat).size) = False := eq_false (Nat.not_lt.2 c1014)
 (try (have c1014b5 := c1014b2; simp only [ByteArray.size_append, show (⟨#[48, 49, 50, 51, 52, 53, 54, 55, 56, 57, 97, 98, 99, 100, 101, 102]⟩ : ByteArray).size = 16 from rfl] at c1014b5))
 (try (have c1014bx2 := c1014b2; simp only [ByteArray.size_append, ByteArray.size_extract, Nat.min_eq_left HMNc1008, Nat.min_eq_left HMNc1013] at c1014bx2; simp only [← i64_w] at c1014bx2))
 (try (have c1014bw0 := c1014b0; simp only [← i64_w] at c1014bw0))
 (try (have c1014bz0 := c1014b0; simp only [← i64_w, show ((⟨#[48, 49, 50, 51, 52, 53, 54, 55, 56, 57, 97, 98, 99, 100, 101, 102]⟩ : ByteArray).size : Int) = 16 from rfl] at c1014bz0))
 (try (have c1014bw1 := c1014b1; simp only [← i64_w] at c1014bw1))
 (try (have c1014bz1 := c1014b1; simp only [← i64_w, show ((⟨#[48, 49, 50, 51, 52, 53, 54, 55, 56, 57, 97, 98, 99, 100, 101, 102]⟩ : ByteArray).size : Int) = 16 from rfl] at c1014bz1))
 (try (have c1014bw2 := c1014b2; simp only [← i64_w] at c1014bw2))
 by_cases c1015 : x6_1 > 0
 {
 rw [if_pos c1015] at H
 have c1015b0 : decide (0 < x6_1) = true := decide_eq_true c1015
 clear c1015
 by_cases c1016 : ((x5_1 ++ ((⟨#[48, 49, 50, 51, 52, 53, 54, 55, 56, 57, 97, 98, 99, 100, 101, 102]⟩ : ByteArray).extract ((ji1005) : Int).toNat ((wrap64 ((ji1005) + 1)) : Int).toNat)) ++ ((⟨#[48, 49, 50, 51, 52, 53, 54, 55, 56, 57, 97, 98, 99, 100, 101, 102]⟩ : ByteArray).extract ((ji1010) : Int).toNat ((wrap64 ((ji1010) + 1)) : Int).toNat)).size + 1 ≤ 9223372036854775807
 {
 rw [if_pos c1016] at H
 have c1016b0 := eq_true c1016
 have c1016b1 : decide (((x5_1 ++ ((⟨#[48, 49, 50, 51, 52, 53, 54, 55, 56, 57, 97, 98, 99, 100, 101, 102]⟩ : ByteArray).extract ((ji1005) : Int).toNat ((wrap64 ((ji1005) + 1)) : Int).toNat)) ++ ((⟨#[48, 49, 50, 51, 52, 53, 54, 55, 56, 57, 97, 98, 99, 100, 101, 102]⟩ : ByteArray).extract ((ji1010) : Int).toNat ((wrap64 ((ji1010) + 1)) : Int).toNat)).size + 1 ≤ 9223372036854775807) = true := decide_eq_true c1016
 try have c1016b2 : (9223372036854775807 < ((x5_1 ++ ((⟨#[48, 49, 50, 51, 52, 53, 54, 55, 56, 57, 97, 98, 99, 100, 101, 102]⟩ : ByteArray).extract ((ji1005) : Int).toNat ((wrap64 ((ji1005) + 1)) : Int).toNat)) ++ ((⟨#[48, 49, 50, 51, 52, 53, 54, 55, 56, 57, 97, 98, 99, 100, 101, 102]⟩ : ByteArray).extract ((ji1010) : Int).toNat ((wrap64 ((ji1010) + 1)) : Int).toNat)).size + 1) = False := eq_false (Nat.not_lt.2 c1016)
 (try (have c1016b5 := c1016b2; simp only [ByteArray.size_append, show (⟨#[48, 49, 50, 51, 52, 53, 54, 55, 56, 57, 97, 98, 99, 100, 101, 102]⟩ : ByteArray).size = 16 from rfl] at c1016b5))
 (try (have c1016bx2 := c1016b2; simp only [ByteArray.size_append, ByteArray.size_extract, Nat.min_eq_left HMNc1008, Nat.min_eq_left HMNc1013] at c1016bx2; simp only [← i64_w] at c1016bx2))
 (try (have c1016bw0 := c1016b0; simp only [← i64_w] at c1016bw0))
 (try (have c1016bz0 := c1016b0; simp only [← i64_w, show ((⟨#[48, 49, 50, 51, 52, 53, 54, 55, 56, 57, 97, 98, 99, 100, 101, 102]⟩ : ByteArray).size : Int) = 16 from rfl] at c1016bz0))
 (try (have c1016bw1 := c1016b1; simp only [← i64_w] at c1016bw1))
 (try (have c1016bz1 := c1016b1; simp only [← i64_w, show ((⟨#[48, 49, 50, 51, 52, 53, 54, 55, 56, 57, 97, 98, 99, 100, 101, 102]⟩ : ByteArray).size : Int) = 16 from rfl] at c1016bz1))
 (try (have c1016bw2 := c1016b2; simp only [← i64_w] at c1016bw2))
 have H' := Aside0.mk H
 clear H
 go_wp2
 repeat (go_quiet (fail); try go_wp2)
 go_roundg k1
 case measure => have := HK1.out; omega
 case rel => exact ⟨(((x5_1 ++ ((⟨#[48, 49, 50, 51, 52, 53, 54, 55, 56, 57, 97, 98, 99, 100, 101, 102]⟩ : ByteArray).extract ((ji1005) : Int).toNat ((wrap64 ((ji1005) + 1)) : Int).toNat)) ++ ((⟨#[48, 49, 50, 51, 52, 53, 54, 55, 56, 57, 97, 98, 99, 100, 101, 102]⟩ : ByteArray).extract ((ji1010) : Int).toNat ((wrap64 ((ji1010) + 1)) : Int).toNat)) ++ (⟨#[58]⟩ : ByteArray)), (wrap64 (x6_1 - 1)), (by first | rfl | (simp; done) | (simp only [← hji1005, ← hji1010] <;> (first | rfl | (simp; done) | (simp [i64_w]; done) | simp)) | (simp [*]; done)), (by first | rfl | (simp; done) | (simp [*]; done)), H', ⟨by have := HK1.out; omega⟩, by repeat (first | exact Drawn0.refl _ | apply Drawn0.step)⟩
 }
 {
 rw [if_neg c1016] at H
 exact absurd H (by simp)
 }
 }
 {
 rw [if_neg c1015] at H
 have c1015b0 : decide (0 < x6_1) = false := decide_eq_false c1015
 clear c1015
 have H' := Aside0.mk H
 clear H
 go_wp2
 repeat (go_quiet (fail); try go_wp2)
 go_roundg k1
 case measure => have := HK1.out; omega
 case rel => exact ⟨((x5_1 ++ ((⟨#[48, 49, 50, 51, 52, 53, 54, 55, 56, 57, 97, 98, 99, 100, 101, 102]⟩ : ByteArray).extract ((ji1005) : Int).toNat ((wrap64 ((ji1005) + 1)) : Int).toNat)) ++ ((⟨#[48, 49, 50, 51, 52, 53, 54, 55, 56, 57, 97, 98, 99, 100, 101, 102]⟩ : ByteArray).extract ((ji1010) : Int).toNat ((wrap64 ((ji1010) + 1)) : Int).toNat)), (wrap64 (x6_1 - 1)), (by first | rfl | (simp; done) | (simp only [← hji1005, ← hji1010] <;> (first | rfl | (simp; done) | (simp [i64_w]; done) | simp)) | (simp [*]; done)), (by first | rfl | (simp; done) | (simp [*]; done)), H', ⟨by have := HK1.out; omega⟩, by repeat (first | exact Drawn0.refl _ | apply Drawn0.step)⟩
 }
 }
 {
 rw [if_neg c1014] at H
 exact absurd H (by simp)
 }
 }
 {
 rw [if_neg c1013] at H
 exact absurd H (by simp)
 }
 }
 {
 rw [if_neg c1012] at H
 exact absurd H (by simp)
 }
 }
 {
 rw [if_neg c1011] at H
 exact absurd H (by simp)
 }
 }
 {
 rw [if_neg c1009] at H
 exact absurd H (by simp)
 }
 }
 {
 rw [if_neg c1008] at H
 exact absurd H (by simp)
 }
 }
 {
 rw [if_neg c1007] at H
 exact absurd H (by simp)
 }
 }
 {
 rw [if_neg c1006] at H
 exact absurd H (by simp)
 }
 }
 {
 rw [if_neg c1003] at H
 exact absurd H (by simp)
 }
 }
 {
 rw [if_neg c1001] at H
 have c1001b0 : decide (0 ≤ x6_1) = false := decide_eq_false c1001
 clear c1001
 simp only [Option.some.injEq, Prod.mk.injEq] at H
 obtain ⟨rfl, rfl⟩ := H
 go_wp2
 repeat (go_quiet (fail); try go_wp2)
 go_ret2
 exact ⟨by first | rfl | (simp; done) | (simp [*]; done), by repeat (first | exact Drawn0.refl _ | apply Drawn0.step)⟩
 }
 }
 )
 }
 {
 go_ret2
 exact ⟨by first | rfl | (simp; done) | (simp [*]; done), by repeat (first | exact Drawn0.refl _ | apply Drawn0.step)⟩
 }

/-! ### laws_FnExactShowMac: function 7 -/
def laws_FnExactShowMac.f (k : Nat) (a0 : Int) : Option (Bool) := (spec_ShowMac.f k a0).bind fun bt112 => ((impl_ShowMac.f k a0).bind fun bt114 => (if bt114.1.toList = bt112.1.toList then (if bt114.2 = bt112.2 then (some true) else (some false)) else (some false)))
theorem laws_FnExactShowMac.mono : ∀ a0 k, LeO (laws_FnExactShowMac.f k a0) (laws_FnExactShowMac.f (k + 1) a0) := by
  intro a0 k
  unfold laws_FnExactShowMac.f
  repeat' first
      | (with_reducible exact impl_ShowMac.mono _ _)
      | (with_reducible exact spec_ShowMac.mono _ _)
      | (with_reducible exact LeO.refl _)
      | (with_reducible exact LeO.none _)
      | (with_reducible refine LeO.ite ?_ ?_)
      | (with_reducible refine LeO.bind ?_ (fun _ => ?_))
      | exact impl_ShowMac.mono _ _
      | exact spec_ShowMac.mono _ _
      | exact LeO.none _
      | refine LeO.ite ?_ ?_
      | refine LeO.bind ?_ (fun _ => ?_)
set_option maxHeartbeats 60000000 in
set_option maxRecDepth 100000 in
theorem laws_FnExactShowMac.calls (k : Nat) (a0 : Int) (r : Bool) (w : World) (hd : Door w) (h : laws_FnExactShowMac.f k a0 = some r) :
    Calls Tryd.prog 7 #[.int .i64 a0] w fun e w' => e = .returned (.bool r) ∧ Below w.heap.size w w' := by
  have HD := Aside0.mk hd
  clear hd
  have HB := Aside0.mk (Below.refl w.heap.size w)
  have H : ((spec_ShowMac.f k a0).bind fun bt112 => ((impl_ShowMac.f k a0).bind fun bt114 => (if bt114.1.toList = bt112.1.toList then (if bt114.2 = bt112.2 then (some true) else (some false)) else (some false)))) = some r := h
  clear h
  replace H := Option.bind_eq_some_iff.mp H
  obtain ⟨⟨t112, t113⟩, A20, H⟩ := H
  replace H : ((impl_ShowMac.f k a0).bind fun bt114 => (if bt114.1.toList = t112.toList then (if bt114.2 = t113 then (some true) else (some false)) else (some false))) = some r := H
  have A2 := Aside0.mk A20
  clear A20
  replace H := Option.bind_eq_some_iff.mp H
  obtain ⟨⟨t114, t115⟩, A30, H⟩ := H
  replace H : (if t114.toList = t112.toList then (if t115 = t113 then (some true) else (some false)) else (some false)) = some r := H
  have A3 := Aside0.mk A30
  clear A30
  by_cases c4 : t114.toList = t112.toList
  · rw [if_pos c4] at H
    have c4b0 : (t114.toList == t112.toList) = true := beq_iff_eq.mpr c4
    have c4b1 : (t114.toList != t112.toList) = false := bne_eq_false_iff_eq.mpr c4
    clear c4
    by_cases c5 : t115 = t113
    · rw [if_pos c5] at H
      have c5b0 : (t115 == t113) = true := beq_iff_eq.mpr c5
      have c5b1 : (t115 != t113) = false := bne_eq_false_iff_eq.mpr c5
      clear c5
      obtain rfl := Option.some.inj H
      go_enter Tryd.func7, Tryd.ntmps7
      go_wp2_with (first | ((with_reducible refine gate_callee (f := 24) rfl ?_); refine goesL_ (some 9) rfl rfl Tryd.func24 (by kernel_rfl) rfl #[.int .i64 a0] rfl wT ?_; (with_reducible refine (spec_ShowMac.calls k a0 t112 t113 _ A2.out).mono ?_); rintro e w' ⟨rfl, ⟨nd, rfl⟩⟩; refine ⟨_, rfl, ?_⟩) | ((with_reducible refine gate_callee (f := 15) rfl ?_); refine goesL_ (some 14) rfl rfl Tryd.func15 (by kernel_rfl) rfl #[.int .i64 a0] rfl wT ?_; (with_reducible refine (impl_ShowMac.calls k a0 t114 t115 _ ?side1 A3.out).mono ?_); (case side1 => repeat (first | exact HD.out | (with_reducible refine Door.c_alloc ?_ _) | (with_reducible refine Door.c_drewN ?_ _) | (with_reducible refine Door.c_drew ?_))); rintro e w1001 ⟨rfl, hb⟩; refine ⟨_, rfl, ?_⟩; have n0_ := Aside0.mk (below_step wB hb); clear HB; have HB := n0_; clear n0_; (try clear hb); (try clear hb2); (try clear hk); (try clear hi)))
      go_ret
      exact ⟨by first | rfl | (simp [errW_none, errW_some] <;> rfl) | (simp [*, errW_none, errW_some] <;> rfl), wB⟩
    · rw [if_neg c5] at H
      have c5b0 : (t115 == t113) = false := beq_eq_false_iff_ne.mpr c5
      have c5b1 : (t115 != t113) = true := bne_iff_ne.mpr c5
      obtain rfl := Option.some.inj H
      go_enter Tryd.func7, Tryd.ntmps7
      go_wp2_with (first | ((with_reducible refine gate_callee (f := 24) rfl ?_); refine goesL_ (some 9) rfl rfl Tryd.func24 (by kernel_rfl) rfl #[.int .i64 a0] rfl wT ?_; (with_reducible refine (spec_ShowMac.calls k a0 t112 t113 _ A2.out).mono ?_); rintro e w' ⟨rfl, ⟨nd, rfl⟩⟩; refine ⟨_, rfl, ?_⟩) | ((with_reducible refine gate_callee (f := 15) rfl ?_); refine goesL_ (some 14) rfl rfl Tryd.func15 (by kernel_rfl) rfl #[.int .i64 a0] rfl wT ?_; (with_reducible refine (impl_ShowMac.calls k a0 t114 t115 _ ?side1 A3.out).mono ?_); (case side1 => repeat (first | exact HD.out | (with_reducible refine Door.c_alloc ?_ _) | (with_reducible refine Door.c_drewN ?_ _) | (with_reducible refine Door.c_drew ?_))); rintro e w1001 ⟨rfl, hb⟩; refine ⟨_, rfl, ?_⟩; have n0_ := Aside0.mk (below_step wB hb); clear HB; have HB := n0_; clear n0_; (try clear hb); (try clear hb2); (try clear hk); (try clear hi)))
      go_ret
      exact ⟨by first | rfl | (simp [errW_none, errW_some] <;> rfl) | (simp [*, errW_none, errW_some] <;> rfl), wB⟩
  · rw [if_neg c4] at H
    have c4b0 : (t114.toList == t112.toList) = false := beq_eq_false_iff_ne.mpr c4
    have c4b1 : (t114.toList != t112.toList) = true := bne_iff_ne.mpr c4
    obtain rfl := Option.some.inj H
    go_enter Tryd.func7, Tryd.ntmps7
    go_wp2_with (first | ((with_reducible refine gate_callee (f := 24) rfl ?_); refine goesL_ (some 9) rfl rfl Tryd.func24 (by kernel_rfl) rfl #[.int .i64 a0] rfl wT ?_; (with_reducible refine (spec_ShowMac.calls k a0 t112 t113 _ A2.out).mono ?_); rintro e w' ⟨rfl, ⟨nd, rfl⟩⟩; refine ⟨_, rfl, ?_⟩) | ((with_reducible refine gate_callee (f := 15) rfl ?_); refine goesL_ (some 14) rfl rfl Tryd.func15 (by kernel_rfl) rfl #[.int .i64 a0] rfl wT ?_; (with_reducible refine (impl_ShowMac.calls k a0 t114 t115 _ ?side1 A3.out).mono ?_); (case side1 => repeat (first | exact HD.out | (with_reducible refine Door.c_alloc ?_ _) | (with_reducible refine Door.c_drewN ?_ _) | (with_reducible refine Door.c_drew ?_))); rintro e w1001 ⟨rfl, hb⟩; refine ⟨_, rfl, ?_⟩; have n0_ := Aside0.mk (below_step wB hb); clear HB; have HB := n0_; clear n0_; (try clear hb); (try clear hb2); (try clear hk); (try clear hi)))
    go_ret
    exact ⟨by first | rfl | (simp [errW_none, errW_some] <;> rfl) | (simp [*, errW_none, errW_some] <;> rfl), wB⟩

/-- THE ONE PURE STATEMENT of laws_FnExactShowMac: yours. -/
def laws_FnExactShowMac.Pure : Prop := ∀ (a0 : Int), (Lit.int .i64 a0).wf = true → ∃ k, laws_FnExactShowMac.f k a0 = some true
theorem laws_FnExactShowMac.walk (P : laws_FnExactShowMac.Pure) (a0 : Int) (w : World) (w0 : (Lit.int .i64 a0).wf = true) (hdoor : Door w) :
    Calls Tryd.prog 7 #[.int .i64 a0] w fun e w' => e = .returned (.bool true) ∧ Below w.heap.size w w' := by
  obtain ⟨k, h⟩ := P a0 w0
  refine (laws_FnExactShowMac.calls k a0 true w hdoor h).mono ?_
  rintro e w' ⟨rfl, hd⟩
  exact ⟨rfl, hd⟩

end Go.Proofs.YtnnplkhjmdbmbaaDoor.PFnExactShowMac
